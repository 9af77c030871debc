/-
  The X layer, part v: what a walk leaves to be shown in plain Lean: the forms of loops and joins, calls of functions, and rules that hand such a form on.
-/
import Derived.Test.Ytinfniggaldheabk
namespace Go.X
open Go Go.RowKit

def InR (n : Int) : Prop := -9223372036854775808 ≤ n ∧ n ≤ 9223372036854775807

abbrev Rng0 (hi : Nat) (B : (j : Nat) → j < hi → (Prop) → Prop) (K : Prop)  : Prop :=
  ∃ Inv : Nat → Prop, Inv 0  ∧ (∀ j hj, Inv j  → B j hj (Inv (j + 1)) ) ∧ (Inv hi  → K )
abbrev Lp0 (B : (Prop) → Prop)  : Prop :=
  ∃ (S : Nat → Prop) (n : Nat), S n  ∧ ∀ n, (S n  → B (∃ m, m < n ∧ S m ) )
abbrev Jn0 (K : Prop) (B : (Prop) → Prop) : Prop :=
  ∃ M : Prop, ((M  → K )) ∧ B M
abbrev Rng1 {α : Type} (hi : Nat) (B : (j : Nat) → j < hi → (α → Prop) → α → Prop) (K : α → Prop) (a0 : α) : Prop :=
  ∃ Inv : Nat → α → Prop, Inv 0 a0 ∧ (∀ j hj, ∀ x0, Inv j x0 → B j hj (Inv (j + 1)) x0) ∧ ∀ x0, (Inv hi x0 → K x0)
abbrev Lp1 {α : Type} (B : (α → Prop) → α → Prop) (a0 : α) : Prop :=
  ∃ (S : Nat → α → Prop) (n : Nat), S n a0 ∧ ∀ n, ∀ x0, (S n x0 → B (fun x0 => ∃ m, m < n ∧ S m x0) x0)
abbrev Jn1 {α : Type} (K : α → Prop) (B : (α → Prop) → Prop) : Prop :=
  ∃ M : α → Prop, (∀ x0, (M x0 → K x0)) ∧ B M
abbrev Rng2 {α β : Type} (hi : Nat) (B : (j : Nat) → j < hi → (α → β → Prop) → α → β → Prop) (K : α → β → Prop) (a0 : α) (a1 : β) : Prop :=
  ∃ Inv : Nat → α → β → Prop, Inv 0 a0 a1 ∧ (∀ j hj, ∀ x0 x1, Inv j x0 x1 → B j hj (Inv (j + 1)) x0 x1) ∧ ∀ x0 x1, (Inv hi x0 x1 → K x0 x1)
abbrev Lp2 {α β : Type} (B : (α → β → Prop) → α → β → Prop) (a0 : α) (a1 : β) : Prop :=
  ∃ (S : Nat → α → β → Prop) (n : Nat), S n a0 a1 ∧ ∀ n, ∀ x0 x1, (S n x0 x1 → B (fun x0 x1 => ∃ m, m < n ∧ S m x0 x1) x0 x1)
abbrev Jn2 {α β : Type} (K : α → β → Prop) (B : (α → β → Prop) → Prop) : Prop :=
  ∃ M : α → β → Prop, (∀ x0 x1, (M x0 x1 → K x0 x1)) ∧ B M
abbrev Rng3 {α β γ : Type} (hi : Nat) (B : (j : Nat) → j < hi → (α → β → γ → Prop) → α → β → γ → Prop) (K : α → β → γ → Prop) (a0 : α) (a1 : β) (a2 : γ) : Prop :=
  ∃ Inv : Nat → α → β → γ → Prop, Inv 0 a0 a1 a2 ∧ (∀ j hj, ∀ x0 x1 x2, Inv j x0 x1 x2 → B j hj (Inv (j + 1)) x0 x1 x2) ∧ ∀ x0 x1 x2, (Inv hi x0 x1 x2 → K x0 x1 x2)
abbrev Lp3 {α β γ : Type} (B : (α → β → γ → Prop) → α → β → γ → Prop) (a0 : α) (a1 : β) (a2 : γ) : Prop :=
  ∃ (S : Nat → α → β → γ → Prop) (n : Nat), S n a0 a1 a2 ∧ ∀ n, ∀ x0 x1 x2, (S n x0 x1 x2 → B (fun x0 x1 x2 => ∃ m, m < n ∧ S m x0 x1 x2) x0 x1 x2)
abbrev Jn3 {α β γ : Type} (K : α → β → γ → Prop) (B : (α → β → γ → Prop) → Prop) : Prop :=
  ∃ M : α → β → γ → Prop, (∀ x0 x1 x2, (M x0 x1 x2 → K x0 x1 x2)) ∧ B M
abbrev Rng4 {α β γ δ : Type} (hi : Nat) (B : (j : Nat) → j < hi → (α → β → γ → δ → Prop) → α → β → γ → δ → Prop) (K : α → β → γ → δ → Prop) (a0 : α) (a1 : β) (a2 : γ) (a3 : δ) : Prop :=
  ∃ Inv : Nat → α → β → γ → δ → Prop, Inv 0 a0 a1 a2 a3 ∧ (∀ j hj, ∀ x0 x1 x2 x3, Inv j x0 x1 x2 x3 → B j hj (Inv (j + 1)) x0 x1 x2 x3) ∧ ∀ x0 x1 x2 x3, (Inv hi x0 x1 x2 x3 → K x0 x1 x2 x3)
abbrev Lp4 {α β γ δ : Type} (B : (α → β → γ → δ → Prop) → α → β → γ → δ → Prop) (a0 : α) (a1 : β) (a2 : γ) (a3 : δ) : Prop :=
  ∃ (S : Nat → α → β → γ → δ → Prop) (n : Nat), S n a0 a1 a2 a3 ∧ ∀ n, ∀ x0 x1 x2 x3, (S n x0 x1 x2 x3 → B (fun x0 x1 x2 x3 => ∃ m, m < n ∧ S m x0 x1 x2 x3) x0 x1 x2 x3)
abbrev Jn4 {α β γ δ : Type} (K : α → β → γ → δ → Prop) (B : (α → β → γ → δ → Prop) → Prop) : Prop :=
  ∃ M : α → β → γ → δ → Prop, (∀ x0 x1 x2 x3, (M x0 x1 x2 x3 → K x0 x1 x2 x3)) ∧ B M
abbrev Rng5 {α β γ δ ε : Type} (hi : Nat) (B : (j : Nat) → j < hi → (α → β → γ → δ → ε → Prop) → α → β → γ → δ → ε → Prop) (K : α → β → γ → δ → ε → Prop) (a0 : α) (a1 : β) (a2 : γ) (a3 : δ) (a4 : ε) : Prop :=
  ∃ Inv : Nat → α → β → γ → δ → ε → Prop, Inv 0 a0 a1 a2 a3 a4 ∧ (∀ j hj, ∀ x0 x1 x2 x3 x4, Inv j x0 x1 x2 x3 x4 → B j hj (Inv (j + 1)) x0 x1 x2 x3 x4) ∧ ∀ x0 x1 x2 x3 x4, (Inv hi x0 x1 x2 x3 x4 → K x0 x1 x2 x3 x4)
abbrev Lp5 {α β γ δ ε : Type} (B : (α → β → γ → δ → ε → Prop) → α → β → γ → δ → ε → Prop) (a0 : α) (a1 : β) (a2 : γ) (a3 : δ) (a4 : ε) : Prop :=
  ∃ (S : Nat → α → β → γ → δ → ε → Prop) (n : Nat), S n a0 a1 a2 a3 a4 ∧ ∀ n, ∀ x0 x1 x2 x3 x4, (S n x0 x1 x2 x3 x4 → B (fun x0 x1 x2 x3 x4 => ∃ m, m < n ∧ S m x0 x1 x2 x3 x4) x0 x1 x2 x3 x4)
abbrev Jn5 {α β γ δ ε : Type} (K : α → β → γ → δ → ε → Prop) (B : (α → β → γ → δ → ε → Prop) → Prop) : Prop :=
  ∃ M : α → β → γ → δ → ε → Prop, (∀ x0 x1 x2 x3 x4, (M x0 x1 x2 x3 x4 → K x0 x1 x2 x3 x4)) ∧ B M
abbrev Rng6 {α β γ δ ε ζ : Type} (hi : Nat) (B : (j : Nat) → j < hi → (α → β → γ → δ → ε → ζ → Prop) → α → β → γ → δ → ε → ζ → Prop) (K : α → β → γ → δ → ε → ζ → Prop) (a0 : α) (a1 : β) (a2 : γ) (a3 : δ) (a4 : ε) (a5 : ζ) : Prop :=
  ∃ Inv : Nat → α → β → γ → δ → ε → ζ → Prop, Inv 0 a0 a1 a2 a3 a4 a5 ∧ (∀ j hj, ∀ x0 x1 x2 x3 x4 x5, Inv j x0 x1 x2 x3 x4 x5 → B j hj (Inv (j + 1)) x0 x1 x2 x3 x4 x5) ∧ ∀ x0 x1 x2 x3 x4 x5, (Inv hi x0 x1 x2 x3 x4 x5 → K x0 x1 x2 x3 x4 x5)
abbrev Lp6 {α β γ δ ε ζ : Type} (B : (α → β → γ → δ → ε → ζ → Prop) → α → β → γ → δ → ε → ζ → Prop) (a0 : α) (a1 : β) (a2 : γ) (a3 : δ) (a4 : ε) (a5 : ζ) : Prop :=
  ∃ (S : Nat → α → β → γ → δ → ε → ζ → Prop) (n : Nat), S n a0 a1 a2 a3 a4 a5 ∧ ∀ n, ∀ x0 x1 x2 x3 x4 x5, (S n x0 x1 x2 x3 x4 x5 → B (fun x0 x1 x2 x3 x4 x5 => ∃ m, m < n ∧ S m x0 x1 x2 x3 x4 x5) x0 x1 x2 x3 x4 x5)
abbrev Jn6 {α β γ δ ε ζ : Type} (K : α → β → γ → δ → ε → ζ → Prop) (B : (α → β → γ → δ → ε → ζ → Prop) → Prop) : Prop :=
  ∃ M : α → β → γ → δ → ε → ζ → Prop, (∀ x0 x1 x2 x3 x4 x5, (M x0 x1 x2 x3 x4 x5 → K x0 x1 x2 x3 x4 x5)) ∧ B M
abbrev Rng7 {α β γ δ ε ζ η : Type} (hi : Nat) (B : (j : Nat) → j < hi → (α → β → γ → δ → ε → ζ → η → Prop) → α → β → γ → δ → ε → ζ → η → Prop) (K : α → β → γ → δ → ε → ζ → η → Prop) (a0 : α) (a1 : β) (a2 : γ) (a3 : δ) (a4 : ε) (a5 : ζ) (a6 : η) : Prop :=
  ∃ Inv : Nat → α → β → γ → δ → ε → ζ → η → Prop, Inv 0 a0 a1 a2 a3 a4 a5 a6 ∧ (∀ j hj, ∀ x0 x1 x2 x3 x4 x5 x6, Inv j x0 x1 x2 x3 x4 x5 x6 → B j hj (Inv (j + 1)) x0 x1 x2 x3 x4 x5 x6) ∧ ∀ x0 x1 x2 x3 x4 x5 x6, (Inv hi x0 x1 x2 x3 x4 x5 x6 → K x0 x1 x2 x3 x4 x5 x6)
abbrev Lp7 {α β γ δ ε ζ η : Type} (B : (α → β → γ → δ → ε → ζ → η → Prop) → α → β → γ → δ → ε → ζ → η → Prop) (a0 : α) (a1 : β) (a2 : γ) (a3 : δ) (a4 : ε) (a5 : ζ) (a6 : η) : Prop :=
  ∃ (S : Nat → α → β → γ → δ → ε → ζ → η → Prop) (n : Nat), S n a0 a1 a2 a3 a4 a5 a6 ∧ ∀ n, ∀ x0 x1 x2 x3 x4 x5 x6, (S n x0 x1 x2 x3 x4 x5 x6 → B (fun x0 x1 x2 x3 x4 x5 x6 => ∃ m, m < n ∧ S m x0 x1 x2 x3 x4 x5 x6) x0 x1 x2 x3 x4 x5 x6)
abbrev Jn7 {α β γ δ ε ζ η : Type} (K : α → β → γ → δ → ε → ζ → η → Prop) (B : (α → β → γ → δ → ε → ζ → η → Prop) → Prop) : Prop :=
  ∃ M : α → β → γ → δ → ε → ζ → η → Prop, (∀ x0 x1 x2 x3 x4 x5 x6, (M x0 x1 x2 x3 x4 x5 x6 → K x0 x1 x2 x3 x4 x5 x6)) ∧ B M
abbrev Rng8 {α β γ δ ε ζ η θ : Type} (hi : Nat) (B : (j : Nat) → j < hi → (α → β → γ → δ → ε → ζ → η → θ → Prop) → α → β → γ → δ → ε → ζ → η → θ → Prop) (K : α → β → γ → δ → ε → ζ → η → θ → Prop) (a0 : α) (a1 : β) (a2 : γ) (a3 : δ) (a4 : ε) (a5 : ζ) (a6 : η) (a7 : θ) : Prop :=
  ∃ Inv : Nat → α → β → γ → δ → ε → ζ → η → θ → Prop, Inv 0 a0 a1 a2 a3 a4 a5 a6 a7 ∧ (∀ j hj, ∀ x0 x1 x2 x3 x4 x5 x6 x7, Inv j x0 x1 x2 x3 x4 x5 x6 x7 → B j hj (Inv (j + 1)) x0 x1 x2 x3 x4 x5 x6 x7) ∧ ∀ x0 x1 x2 x3 x4 x5 x6 x7, (Inv hi x0 x1 x2 x3 x4 x5 x6 x7 → K x0 x1 x2 x3 x4 x5 x6 x7)
abbrev Lp8 {α β γ δ ε ζ η θ : Type} (B : (α → β → γ → δ → ε → ζ → η → θ → Prop) → α → β → γ → δ → ε → ζ → η → θ → Prop) (a0 : α) (a1 : β) (a2 : γ) (a3 : δ) (a4 : ε) (a5 : ζ) (a6 : η) (a7 : θ) : Prop :=
  ∃ (S : Nat → α → β → γ → δ → ε → ζ → η → θ → Prop) (n : Nat), S n a0 a1 a2 a3 a4 a5 a6 a7 ∧ ∀ n, ∀ x0 x1 x2 x3 x4 x5 x6 x7, (S n x0 x1 x2 x3 x4 x5 x6 x7 → B (fun x0 x1 x2 x3 x4 x5 x6 x7 => ∃ m, m < n ∧ S m x0 x1 x2 x3 x4 x5 x6 x7) x0 x1 x2 x3 x4 x5 x6 x7)
abbrev Jn8 {α β γ δ ε ζ η θ : Type} (K : α → β → γ → δ → ε → ζ → η → θ → Prop) (B : (α → β → γ → δ → ε → ζ → η → θ → Prop) → Prop) : Prop :=
  ∃ M : α → β → γ → δ → ε → ζ → η → θ → Prop, (∀ x0 x1 x2 x3 x4 x5 x6 x7, (M x0 x1 x2 x3 x4 x5 x6 x7 → K x0 x1 x2 x3 x4 x5 x6 x7)) ∧ B M

theorem rng_end {n j : Nat} {I : Nat → Prop} (h : j ≤ n) (hc : ¬ ((j : Int) < (n : Int))) (hI : I j) : I n := by
  have : j = n := by omega
  exact this ▸ hI
theorem rng_lt {n j : Nat} (hc : (j : Int) < (n : Int)) : j < n := by omega
theorem rng_endI {n : Int} {j : Nat} {I : Nat → Prop} (h : j ≤ n.toNat) (hc : ¬ ((j : Int) < n)) (hI : I j) : I n.toNat := by
  have : j = n.toNat := by omega
  exact this ▸ hI
theorem rng_ltI {n : Int} {j : Nat} (hc : (j : Int) < n) : j < n.toNat := by omega
theorem inr_toNat {n : Int} (h : InR n) : n.toNat ≤ 9223372036854775807 := by unfold InR at h; omega
theorem inr_nat {n j : Nat} (h : j ≤ n) (hn : n ≤ 9223372036854775807) : InR (j : Int) := by unfold InR; omega
theorem inr_len {n : Nat} (hn : n ≤ 9223372036854775807) : InR (n : Int) := by unfold InR; omega
theorem inr_succ {n j : Nat} (hc : (j : Int) < (n : Int)) (hn : n ≤ 9223372036854775807) : -9223372036854775808 ≤ (j : Int) + 1 ∧ (j : Int) + 1 ≤ 9223372036854775807 := by omega
theorem inr_succ0 {n j : Nat} (hc : j < n) (hn : n ≤ 9223372036854775807) : -9223372036854775808 ≤ (j : Int) + 1 ∧ (j : Int) + 1 ≤ 9223372036854775807 := by omega

/-! What a function is called with and gives back -/

abbrev ArgR (α : Type) := Reg → World → Own → List Value → α → Prop
abbrev ResR (β : Type) := Reg → World → Own → List Value → Value → β → Prop
abbrev ObR (σ : Type) := Reg → World → Own → Nat → σ → Prop

def sN : ArgR Unit := fun _ _ A vs _ => vs = [] ∧ A = []
def sD {α β : Type} [Rep α] (S : ArgR β) : ArgR (α × β) := fun I w A vs p => ∃ v vs', vs = v :: vs' ∧ rep I w v p.1 ∧ S I w A vs' p.2
/-- An object of the call's own. -/
def sO {σ β : Type} (ob : ObR σ) (S : ArgR β) : ArgR (σ × β) := fun I w A vs p => ∃ b vs' A1 A2, vs = .pointer (some ⟨b, 0, none⟩) :: vs' ∧ A = A1 ++ A2 ∧ ob I w A1 b p.1 ∧ S I w A2 vs' p.2
/-- A datum that lies in memory and stays as it is. -/
def sP {α β : Type} [Rep α] (S : ArgR β) : ArgR (α × β) := fun I w A vs p => ∃ a u vs', vs = .pointer (some a) :: vs' ∧ I a.block ∧ Points w a u ∧ rep I w u p.1 ∧ S I w A vs' p.2

def rU : ResR Unit := fun _ _ A _ r _ => r = .tuple #[] ∧ A = []
def rD {α : Type} [Rep α] : ResR α := fun I w A _ r b => A = [] ∧ rep I w r b
def rO {α : Type} [Rep α] : ResR (List α) := fun I w A _ r b => OwnSl I w A r b
def rM {κ β : Type} [Rep κ] [Rep β] : ResR (List (κ × β)) := fun I w A _ r b => OwnMap I w A r b
def rT {β γ : Type} (R1 : ResR β) (R2 : ResR γ) : ResR (β × γ) := fun I w A vs r p => ∃ v1 v2 A1 A2, r = .tuple #[v1, v2] ∧ A = A1 ++ A2 ∧ R1 I w A1 vs v1 p.1 ∧ R2 I w A2 vs v2 p.2
def rT3 {β γ δ : Type} (R1 : ResR β) (R2 : ResR γ) (R3 : ResR δ) : ResR (β × γ × δ) := fun I w A vs r p => ∃ v1 v2 v3 A1 A2 A3, r = .tuple #[v1, v2, v3] ∧ A = A1 ++ (A2 ++ A3) ∧ R1 I w A1 vs v1 p.1 ∧ R2 I w A2 vs v2 p.2.1 ∧ R3 I w A3 vs v3 p.2.2
/-- An object that came in at place i, as it is now. -/
def rI {σ β : Type} (i : Nat) (ob : ObR σ) (R : ResR β) : ResR (σ × β) := fun I w A vs r p => ∃ b A1 A2, vs[i]? = some (Value.pointer (some ⟨b, 0, none⟩)) ∧ A = A1 ++ A2 ∧ ob I w A1 b p.1 ∧ R I w A2 vs r p.2
/-- Boxes. -/
def boxO {α : Type} [Rep α] (t : TypeId) : ObR (List α) := fun I w A b x => ∃ v A1, A = [(b, .cells #[v] t (0, 0))] ++ A1 ∧ OwnSl I w A1 v x
def boxD {α : Type} [Rep α] (t : TypeId) : ObR α := fun I w A b x => ∃ v cs, A = [(b, .cells cs t (0, 0))] ∧ v.cells = cs ∧ rep I w v x

/-- The call, from whatever memory, returns with what Q says. -/
def Wp {α β : Type} (P : Program) (g : FuncId) (S : ArgR α) (a : α) (R : ResR β) (Q : β → Prop) : Prop :=
  ∀ (I : Reg) (w : World) (T A : Own) (vs : List Value), S I w A vs a → St I w (A ++ T) → Ret P g vs I w fun r I' w' => ∃ A' b, St I' w' (A' ++ T) ∧ R I' w' A' vs r b ∧ Q b

theorem Wp.mono {α β : Type} {P : Program} {g : FuncId} {S : ArgR α} {a : α} {R : ResR β} {Q Q' : β → Prop} (h : Wp P g S a R Q) (hq : ∀ b, Q b → Q' b) : Wp P g S a R Q' :=
  fun I w T A vs h1 h2 => (h I w T A vs h1 h2).mono fun _ _ _ _ ⟨A', b, h3, h4, h5⟩ => ⟨A', b, h3, h4, hq b h5⟩

theorem Wp.c0 {α β : Type} {P : Program} {g : FuncId} {S : ArgR α} {a : α} {R : ResR β} {Q : β → Prop} {I : Reg} {w : World} {T : Own} {vs : List Value} (h : Wp P g S a R Q) (hS : S I w [] vs a) (hs : St I w T) :
    Ret P g vs I w fun r I' w' => ∃ A' b, St I' w' (A' ++ T) ∧ R I' w' A' vs r b ∧ Q b := h I w T [] vs hS hs
theorem Wp.cA {α β : Type} {P : Program} {g : FuncId} {S : ArgR α} {a : α} {R : ResR β} {Q : β → Prop} {I : Reg} {w : World} {T A : Own} {vs : List Value} (h : Wp P g S a R Q) (hS : S I w A vs a) (hs : St I w (A ++ T)) :
    Ret P g vs I w fun r I' w' => ∃ A' b, St I' w' (A' ++ T) ∧ R I' w' A' vs r b ∧ Q b := h I w T A vs hS hs
theorem St.rot4 {I : Reg} {w : World} {A0 A1 A2 A3 A4 T : Own} (h : St I w (A0 ++ (A1 ++ (A2 ++ (A3 ++ (A4 ++ T)))))) : St I w (A4 ++ (A0 ++ (A1 ++ (A2 ++ (A3 ++ T))))) := by
  have h1 : St I w ((((A0 ++ A1) ++ A2) ++ A3) ++ (A4 ++ T)) := by simpa only [List.append_assoc] using h
  simpa only [List.append_assoc] using h1.rot1
theorem St.rot5 {I : Reg} {w : World} {A0 A1 A2 A3 A4 A5 T : Own} (h : St I w (A0 ++ (A1 ++ (A2 ++ (A3 ++ (A4 ++ (A5 ++ T))))))) : St I w (A5 ++ (A0 ++ (A1 ++ (A2 ++ (A3 ++ (A4 ++ T)))))) := by
  have h1 : St I w (((((A0 ++ A1) ++ A2) ++ A3) ++ A4) ++ (A5 ++ T)) := by simpa only [List.append_assoc] using h
  simpa only [List.append_assoc] using h1.rot1
theorem St.rot6 {I : Reg} {w : World} {A0 A1 A2 A3 A4 A5 A6 T : Own} (h : St I w (A0 ++ (A1 ++ (A2 ++ (A3 ++ (A4 ++ (A5 ++ (A6 ++ T)))))))) : St I w (A6 ++ (A0 ++ (A1 ++ (A2 ++ (A3 ++ (A4 ++ (A5 ++ T))))))) := by
  have h1 : St I w ((((((A0 ++ A1) ++ A2) ++ A3) ++ A4) ++ A5) ++ (A6 ++ T)) := by simpa only [List.append_assoc] using h
  simpa only [List.append_assoc] using h1.rot1
theorem St.rot7 {I : Reg} {w : World} {A0 A1 A2 A3 A4 A5 A6 A7 T : Own} (h : St I w (A0 ++ (A1 ++ (A2 ++ (A3 ++ (A4 ++ (A5 ++ (A6 ++ (A7 ++ T))))))))) : St I w (A7 ++ (A0 ++ (A1 ++ (A2 ++ (A3 ++ (A4 ++ (A5 ++ (A6 ++ T)))))))) := by
  have h1 : St I w (((((((A0 ++ A1) ++ A2) ++ A3) ++ A4) ++ A5) ++ A6) ++ (A7 ++ T)) := by simpa only [List.append_assoc] using h
  simpa only [List.append_assoc] using h1.rot1
theorem St.rot8 {I : Reg} {w : World} {A0 A1 A2 A3 A4 A5 A6 A7 A8 T : Own} (h : St I w (A0 ++ (A1 ++ (A2 ++ (A3 ++ (A4 ++ (A5 ++ (A6 ++ (A7 ++ (A8 ++ T)))))))))) : St I w (A8 ++ (A0 ++ (A1 ++ (A2 ++ (A3 ++ (A4 ++ (A5 ++ (A6 ++ (A7 ++ T))))))))) := by
  have h1 : St I w ((((((((A0 ++ A1) ++ A2) ++ A3) ++ A4) ++ A5) ++ A6) ++ A7) ++ (A8 ++ T)) := by simpa only [List.append_assoc] using h
  simpa only [List.append_assoc] using h1.rot1
theorem St.rot9 {I : Reg} {w : World} {A0 A1 A2 A3 A4 A5 A6 A7 A8 A9 T : Own} (h : St I w (A0 ++ (A1 ++ (A2 ++ (A3 ++ (A4 ++ (A5 ++ (A6 ++ (A7 ++ (A8 ++ (A9 ++ T))))))))))) : St I w (A9 ++ (A0 ++ (A1 ++ (A2 ++ (A3 ++ (A4 ++ (A5 ++ (A6 ++ (A7 ++ (A8 ++ T)))))))))) := by
  have h1 : St I w (((((((((A0 ++ A1) ++ A2) ++ A3) ++ A4) ++ A5) ++ A6) ++ A7) ++ A8) ++ (A9 ++ T)) := by simpa only [List.append_assoc] using h
  simpa only [List.append_assoc] using h1.rot1
theorem St.rot10 {I : Reg} {w : World} {A0 A1 A2 A3 A4 A5 A6 A7 A8 A9 A10 T : Own} (h : St I w (A0 ++ (A1 ++ (A2 ++ (A3 ++ (A4 ++ (A5 ++ (A6 ++ (A7 ++ (A8 ++ (A9 ++ (A10 ++ T)))))))))))) : St I w (A10 ++ (A0 ++ (A1 ++ (A2 ++ (A3 ++ (A4 ++ (A5 ++ (A6 ++ (A7 ++ (A8 ++ (A9 ++ T))))))))))) := by
  have h1 : St I w ((((((((((A0 ++ A1) ++ A2) ++ A3) ++ A4) ++ A5) ++ A6) ++ A7) ++ A8) ++ A9) ++ (A10 ++ T)) := by simpa only [List.append_assoc] using h
  simpa only [List.append_assoc] using h1.rot1
theorem St.rot11 {I : Reg} {w : World} {A0 A1 A2 A3 A4 A5 A6 A7 A8 A9 A10 A11 T : Own} (h : St I w (A0 ++ (A1 ++ (A2 ++ (A3 ++ (A4 ++ (A5 ++ (A6 ++ (A7 ++ (A8 ++ (A9 ++ (A10 ++ (A11 ++ T))))))))))))) : St I w (A11 ++ (A0 ++ (A1 ++ (A2 ++ (A3 ++ (A4 ++ (A5 ++ (A6 ++ (A7 ++ (A8 ++ (A9 ++ (A10 ++ T)))))))))))) := by
  have h1 : St I w (((((((((((A0 ++ A1) ++ A2) ++ A3) ++ A4) ++ A5) ++ A6) ++ A7) ++ A8) ++ A9) ++ A10) ++ (A11 ++ T)) := by simpa only [List.append_assoc] using h
  simpa only [List.append_assoc] using h1.rot1
theorem St.rot12 {I : Reg} {w : World} {A0 A1 A2 A3 A4 A5 A6 A7 A8 A9 A10 A11 A12 T : Own} (h : St I w (A0 ++ (A1 ++ (A2 ++ (A3 ++ (A4 ++ (A5 ++ (A6 ++ (A7 ++ (A8 ++ (A9 ++ (A10 ++ (A11 ++ (A12 ++ T)))))))))))))) : St I w (A12 ++ (A0 ++ (A1 ++ (A2 ++ (A3 ++ (A4 ++ (A5 ++ (A6 ++ (A7 ++ (A8 ++ (A9 ++ (A10 ++ (A11 ++ T))))))))))))) := by
  have h1 : St I w ((((((((((((A0 ++ A1) ++ A2) ++ A3) ++ A4) ++ A5) ++ A6) ++ A7) ++ A8) ++ A9) ++ A10) ++ A11) ++ (A12 ++ T)) := by simpa only [List.append_assoc] using h
  simpa only [List.append_assoc] using h1.rot1
theorem St.of_nil {I : Reg} {w : World} {T : Own} (h : St I w ([] ++ T)) : St I w T := h
theorem blk_of {I : Reg} {a a' : Addr} (h : a'.block = a.block) (hb : I a.block) : I a'.block := h ▸ hb

/-- A function value: from the world w on, called with what S says it does what F says. -/
def Fv {α β : Type} (P : Program) (S : ArgR α) (R : ResR β) (I0 : Reg) (w0 : World) (v : Value) (F : α → (β → Prop) → Prop) : Prop :=
  ∃ g first cap, v = .func (.func g) first cap ∧ canCall P g = true ∧ ∀ a Q, F a Q → ∀ (I : Reg) (w : World), Ext I0 w0 I w → ∀ (T A : Own) (vs : List Value), S I w A vs a → St I w (A ++ T) →
    Ret P g (first.toList ++ vs ++ cap.toList) I w fun r I' w' => ∃ A' b, St I' w' (A' ++ T) ∧ R I' w' A' vs r b ∧ Q b
theorem Fv.mono {α β : Type} {P : Program} {S : ArgR α} {R : ResR β} {I0 I1 : Reg} {w0 w1 : World} {v : Value} {F : α → (β → Prop) → Prop} (h : Fv P S R I0 w0 v F) (e : Ext I0 w0 I1 w1) : Fv P S R I1 w1 v F := by
  obtain ⟨g, f, c, h1, h2, h3⟩ := h
  exact ⟨g, f, c, h1, h2, fun a Q hF I w e' => h3 a Q hF I w (e.trans e')⟩
theorem fv_plain {α β : Type} {P : Program} {S : ArgR α} {R : ResR β} {I0 : Reg} {w0 : World} {g : FuncId} {F : α → (β → Prop) → Prop} (hc : canCall P g = true) (h : ∀ a Q, F a Q → Wp P g S a R Q) : Fv P S R I0 w0 (.func (.func g) #[] #[]) F :=
  ⟨g, _, _, rfl, hc, fun a Q hF I w _ T A vs h1 h2 => by simpa using h a Q hF I w T A vs h1 h2⟩
structure EMono {σ : Type} (Env : Reg → World → Own → Value → σ → Prop) : Prop where
  mono : ∀ {I : Reg} {w : World} {I' : Reg} {w' : World} {A : Own} {v : Value} {x : σ}, Ext I w I' w' → Env I w A v x → Env I' w' A v x
/-- A function value as an argument, and what belongs to it: Env. -/
def sF {α β σ : Type} (P : Program) (Sf : Value → ArgR α) (Rf : Value → ResR β) (Env : Reg → World → Own → Value → σ → Prop) {γ : Type} (S : ArgR γ) : ArgR (((α → (β → Prop) → Prop) × σ) × γ) :=
  fun I w A vs p => ∃ v vs' A1 A2, vs = v :: vs' ∧ A = A1 ++ A2 ∧ Fv P (Sf v) (Rf v) I w v p.1.1 ∧ EMono Env ∧ Env I w A1 v p.1.2 ∧ S I w A2 vs' p.2
theorem boxO.mono {α : Type} [Rep α] {t : TypeId} {I : Reg} {w : World} {I' : Reg} {w' : World} {A : Own} {b : Nat} {x : List α} (e : Ext I w I' w') : boxO t I w A b x → boxO t I' w' A b x := fun ⟨v, A1, h, o⟩ => ⟨v, A1, h, o.mono e⟩
theorem boxD.mono {α : Type} [Rep α] {t : TypeId} {I : Reg} {w : World} {I' : Reg} {w' : World} {A : Own} {b : Nat} {x : α} (e : Ext I w I' w') : boxD t I w A b x → boxD t I' w' A b x := fun ⟨v, A1, h, o, r⟩ => ⟨v, A1, h, o, e.rep r⟩
def noEnv : Reg → World → Own → Value → Unit → Prop := fun _ _ A _ _ => A = []
/-- What belongs to the function value v comes along. -/
def sE {α σ : Type} (Env : Reg → World → Own → Value → σ → Prop) (v : Value) (S : ArgR α) : ArgR (σ × α) := fun I w A vs p => ∃ A1 A2, A = A1 ++ A2 ∧ Env I w A1 v p.1 ∧ S I w A2 vs p.2
def rE {β σ : Type} (Env : Reg → World → Own → Value → σ → Prop) (v : Value) (R : ResR β) : ResR (σ × β) := fun I w A vs r p => ∃ A1 A2, A = A1 ++ A2 ∧ Env I w A1 v p.1 ∧ R I w A2 vs r p.2
/-- What a function has captured comes behind its arguments: a box, an object that is read and written. -/
def sCap {σ β : Type} (ob : ObR σ) (S : ArgR β) : ArgR (σ × β) := fun I w A vs p => ∃ b vs' A1 A2, vs = vs' ++ [Value.pointer (some ⟨b, 0, none⟩)] ∧ A = A1 ++ A2 ∧ ob I w A1 b p.1 ∧ S I w A2 vs' p.2
def rCap {σ β : Type} (ob : ObR σ) (R : ResR β) : ResR (σ × β) := fun I w A vs r p => ∃ b A1 A2, vs.getLast? = some (Value.pointer (some ⟨b, 0, none⟩)) ∧ A = A1 ++ A2 ∧ ob I w A1 b p.1 ∧ R I w A2 vs.dropLast r p.2
/-- A datum in memory that stays as it is. -/
def sCapP {α β : Type} [Rep α] (S : ArgR β) : ArgR (α × β) := fun I w A vs p => ∃ a u vs', vs = vs' ++ [Value.pointer (some a)] ∧ I a.block ∧ Points w a u ∧ rep I w u p.1 ∧ S I w A vs' p.2
def rCapP {β : Type} (R : ResR β) : ResR β := fun I w A vs r p => R I w A vs.dropLast r p
def envB {σ : Type} (g : FuncId) (first cap : Array Value) (ob : ObR σ) : Reg → World → Own → Value → σ → Prop := fun I w A v x => ∃ b, v = .func (.func g) first (cap.push (.pointer (some ⟨b, 0, none⟩))) ∧ ob I w A b x
theorem envB.mono {σ : Type} {g : FuncId} {first cap : Array Value} {ob : ObR σ} (h : ∀ {I : Reg} {w : World} {I' : Reg} {w' : World} {A : Own} {b : Nat} {x : σ}, Ext I w I' w' → ob I w A b x → ob I' w' A b x) : EMono (envB g first cap ob) := ⟨fun e ⟨b, h1, h2⟩ => ⟨b, h1, h e h2⟩⟩
/-- A function value of which some captured values are still to come. -/
def Fc {α β : Type} (P : Program) (g : FuncId) (caps : List Value) (S : ArgR α) (R : ResR β) (I0 : Reg) (w0 : World) (F : α → (β → Prop) → Prop) : Prop :=
  ∀ a Q, F a Q → ∀ (I : Reg) (w : World), Ext I0 w0 I w → ∀ (T A : Own) (vs : List Value), S I w A vs a → St I w (A ++ T) → Ret P g (vs ++ caps) I w fun r I' w' => ∃ A' b, St I' w' (A' ++ T) ∧ R I' w' A' vs r b ∧ Q b
theorem Fc.nil {α β : Type} {P : Program} {g : FuncId} {S : ArgR α} {R : ResR β} {I0 : Reg} {w0 : World} {F : α → (β → Prop) → Prop} (h : ∀ a Q, F a Q → Wp P g S a R Q) : Fc P g [] S R I0 w0 F :=
  fun a Q hF I w _ T A vs h1 h2 => by rw [List.append_nil]; exact h a Q hF I w T A vs h1 h2
theorem Fc.capP {α β γ : Type} [Rep γ] {P : Program} {g : FuncId} {caps : List Value} {S : ArgR α} {R : ResR β} {I0 : Reg} {w0 : World} {F : γ × α → (β → Prop) → Prop} {a : Addr} {u : Value} {x : γ} (h : Fc P g caps (sCapP S) (rCapP R) I0 w0 F) (hb : I0 a.block) (hp : Points w0 a u) (hr : rep I0 w0 u x) :
    Fc P g (.pointer (some a) :: caps) S R I0 w0 (fun y Q => F (x, y) Q) := fun y Q hF I w e T A vs h1 h2 => by
  have := h (x, y) Q hF I w e T A (vs ++ [.pointer (some a)]) ⟨a, u, vs, rfl, e.sub _ hb, Points.mono e hb hp, e.rep hr, h1⟩ h2
  rw [List.append_assoc] at this
  refine this.mono fun r I' w' _ ⟨A', b, h3, h4, h5⟩ => ⟨A', b, h3, ?_, h5⟩
  have h4 : R I' w' A' (vs ++ [Value.pointer (some a)]).dropLast r b := h4
  rwa [List.dropLast_concat] at h4
theorem Fc.done {α β : Type} {P : Program} {g : FuncId} {caps : List Value} {S : ArgR α} {R : ResR β} {I0 : Reg} {w0 : World} {F : α → (β → Prop) → Prop} (hc : canCall P g = true) (h : Fc P g caps S R I0 w0 F) : Fv P S R I0 w0 (.func (.func g) #[] ⟨caps⟩) F :=
  ⟨g, _, _, rfl, hc, fun a Q hF I w e T A vs h1 h2 => h a Q hF I w e T A vs h1 h2⟩
/-- The last captured value is a box. -/
theorem Fc.box {α β σ : Type} {P : Program} {g : FuncId} {ob : ObR σ} {S : ArgR α} {R : ResR β} {I0 : Reg} {w0 : World} {F : σ × α → (σ × β → Prop) → Prop} {b : Nat} (hc : canCall P g = true) (h : Fc P g [] (sCap ob S) (rCap ob R) I0 w0 F) :
    Fv P (sE (envB g #[] #[] ob) (.func (.func g) #[] #[.pointer (some ⟨b, 0, none⟩)]) S) (rE (envB g #[] #[] ob) (.func (.func g) #[] #[.pointer (some ⟨b, 0, none⟩)]) R) I0 w0 (.func (.func g) #[] #[.pointer (some ⟨b, 0, none⟩)]) F :=
  ⟨g, _, _, rfl, hc, fun a Q hF I w e T A vs h1 h2 => by
    obtain ⟨A1, A2, rfl, ⟨b', hb, ho⟩, hS⟩ := h1
    have hb' : b' = b := by simpa using hb.symm
    subst hb'
    have := h a Q hF I w e T (A1 ++ A2) (vs ++ [.pointer (some ⟨b', 0, none⟩)]) ⟨b', vs, A1, A2, rfl, rfl, ho, hS⟩ h2
    rw [List.append_nil] at this
    refine this.mono fun r I' w' _ ⟨A', x, h3, ⟨b2, B1, B2, h4, h5, h6, h7⟩, h8⟩ => ⟨A', x, h3, ⟨B1, B2, h5, ⟨b', rfl, ?_⟩, ?_⟩, h8⟩
    · have : b2 = b' := by simpa using h4.symm
      exact this ▸ h6
    · rwa [List.dropLast_concat] at h7⟩
def rEi {β σ : Type} (i : Nat) (Env : Reg → World → Own → Value → σ → Prop) (R : ResR β) : ResR (σ × β) := fun I w A vs r p => ∃ v A1 A2, vs[i]? = some v ∧ A = A1 ++ A2 ∧ Env I w A1 v p.1 ∧ R I w A2 vs r p.2

/-! Rules that hand the form on -/
section
variable {P : Program} {N : Nat} {ops : Array Oper} {R : Ending → World → Prop} {m : Bool} {K : Fr → World → Prop} {os : List Oper} {f : Fr} {w : World}
variable {dst : Option Tmp} {ty : TypeId} {pos : String} {af : Array Edge} {I : Reg} {T A : Own} {x y z : Operand} {t e u : TypeId} {sz nb : Nat} {kd : IntKind}
variable {fn : FuncId} {k : List Item}

theorem wt_cut {c : Code} (J : Fr → World → Prop) (h1 : ∀ f w, J f w → WT P fn N k R f w) (h2 : (∀ f w, J f w → WT P fn N k R f w) → WT P fn N (.code c :: k) R f w) : WT P fn N (.code c :: k) R f w := h2 h1
theorem wt_cutb {id : Nat} {c : Code} (J : Fr → World → Prop) (h1 : ∀ f w, J f w → WT P fn N k R f w) (h2 : (∀ f w, J f w → WT P fn N k R f w) → WT P fn N (.code (.block id c) :: k) R f w) : WT P fn N (.code (.block id c) :: k) R f w := h2 h1

theorem v_ix {α : Type} [Rep α] {xs : List α} {sv : Value} {kd : IntKind} {i : Int} {j : Nat} {C : j < xs.length → Prop} (ht : slB P t e (Rep.size α) nb = true) (hr : rep I w sv xs) (hx : ev f x = sv) (hy : ev f y = .int kd i) (hi : i = (j : Int)) (h0 : ∃ q : j < xs.length, C q)
    (h : ∀ (q : j < xs.length) a v, Points w a v → I a.block → rep I w v xs[j] → C q → WL P N ops R m K os (put N f dst (.pointer (some a))) w) : WL P N ops R m K (⟨dst, .indexAddr t x y, ty, pos, af, none⟩ :: os) f w :=
  o_index ht hr hx hy hi h0.1 fun a v h1 h2 h3 => h h0.1 a v h1 h2 h3 h0.2

/-- An element is read. -/
theorem v_il {α : Type} [Rep α] {xs : List α} {sv : Value} {kd : IntKind} {i : Int} {j d : Nat} {C : j < xs.length → Prop} {dst2 : Option Tmp} {ty2 : TypeId} {pos2 : String} {af2 : Array Edge} (ht : slB P t e (Rep.size α) nb = true) (hr : rep I w sv xs) (hx : ev f x = sv) (hy : ev f y = .int kd i) (hi : i = (j : Int)) (hd : Nat.blt d N = true)
    (hu : tyB P u (Rep.agg α) (Rep.size α) = true) (h0 : ∃ q : j < xs.length, C q)
    (h : ∀ (q : j < xs.length) a v, rep I w v xs[j] → C q → WL P N ops R m K os (put N (upd N f d (.pointer (some a))) dst2 v) w) :
    WL P N ops R m K (⟨some d, .indexAddr t x y, ty, pos, af, none⟩ :: ⟨dst2, .load u (.tmp d), ty2, pos2, af2, none⟩ :: os) f w :=
  v_ix ht hr hx hy hi h0 fun q a v h1 _ h3 h4 => o_load hu h1 h3 (by show upd N f d _ d = _; simp [upd, show d < N by simpa [Nat.blt_eq] using hd]) (h q a v h3 h4)

/-- A function value is called. -/
theorem o_fv {α β : Type} {S : ArgR α} {Rr : ResR β} {v : Value} {F : α → (β → Prop) → Prop} {a : α} {Q : β → Prop} {fv : Operand} {as : Array Operand} {at_ : Array TypeId} {vs : List Value} (hF : Fv P S Rr I w v F) (h0 : F a Q) (hS : S I w A vs a) (hs : St I w (A ++ T)) (hv : ev f fv = v) (ha : as.toList.map (ev f) = vs)
    (h : ∀ r I' w', Ext I w I' w' → (∃ A' b, St I' w' (A' ++ T) ∧ Rr I' w' A' vs r b ∧ Q b) → WL P N ops R false K os (put N f dst r) w') : WL P N ops R false K (⟨dst, .call ⟨.value fv, as, at_⟩, ty, pos, af, none⟩ :: os) f w := by
  obtain ⟨g, fi, ca, h1, h2, h3⟩ := hF
  exact o_retv h2 (h3 a Q h0 I w (Ext.refl _ _) T A vs hS hs) (hv.trans h1) (by rw [ha]) h

theorem o_fv0 {α β : Type} {S : ArgR α} {Rr : ResR β} {v : Value} {F : α → (β → Prop) → Prop} {a : α} {Q : β → Prop} {fv : Operand} {as : Array Operand} {at_ : Array TypeId} {vs : List Value} (hF : Fv P S Rr I w v F) (h0 : F a Q) (hS : S I w [] vs a) (hs : St I w T) (hv : ev f fv = v) (ha : as.toList.map (ev f) = vs)
    (h : ∀ r I' w', Ext I w I' w' → (∃ A' b, St I' w' (A' ++ T) ∧ Rr I' w' A' vs r b ∧ Q b) → WL P N ops R false K os (put N f dst r) w') : WL P N ops R false K (⟨dst, .call ⟨.value fv, as, at_⟩, ty, pos, af, none⟩ :: os) f w :=
  o_fv (A := []) hF h0 hS hs hv ha h

/-- One element is appended. -/
theorem v_app1 {α : Type} [Rep α] {d : Nat} {v yv : Value} {xs : List α} {a : α} {ty2 : TypeId} {pos2 : String} {af2 : Array Edge} {C : Prop} {dst2 : Option Tmp} (ht : slB P t e (Rep.size α) nb = true) (hd : Nat.blt d N = true) (hd2 : ev f x = ev (upd N f d undef) x) (hz : Nat.ble (Rep.size α) 1000000 = true) (hs : St I w (A ++ T)) (ho : OwnSl I w A v xs) (hy : rep I w yv a) (hx : ev f x = v) (hyv : ev f y = yv)
    (h0 : (xs.length + 1) * nb ≤ 140737488355328 ∧ C) (hnb : Nat.ble 1 nb = true)
    (h : ∀ u v' A' I' w', Ext I w I' w' → St I' w' (A' ++ T) → OwnSl I' w' A' v' (xs ++ [a]) → (xs ++ [a]).length ≤ 9223372036854775807 → C → WL P N ops R m K os (put N (upd N f d u) dst2 v') w') :
    WL P N ops R m K (⟨some d, .buildSlice t 1 #[(0, y)], ty, pos, af, none⟩ :: ⟨dst2, .call ⟨.builtin .append, #[x, .tmp d], #[t, t]⟩, ty2, pos2, af2, none⟩ :: os) f w := by
  have hnb' := Nat.le_of_ble_eq_true hnb
  have hle : xs.length + 1 ≤ (xs.length + 1) * nb := Nat.le_mul_of_pos_right _ (by omega)
  refine o_buildI (xs := [a]) (vs := [yv]) ht hs (by simp [enum, hyv]) ⟨hy, trivial⟩ (by have := Nat.le_of_ble_eq_true hz; rw [Nat.ble_eq]; simp only [List.length_singleton]; omega) rfl ?_
  intro u I' w' e1 s1 r1
  have hxd : ev (upd N f d u) x = v := by
    rw [← hx, hd2]
    cases x with
    | tmp j =>
      have h3 : f j = upd N f d undef j := hd2
      show upd N f d u j = upd N f d undef j
      by_cases hj : j = d
      · subst hj
        exfalso
        have h4 : f j = undef := by rw [h3]; simp [upd]
        have h5 : ev f (.tmp j) = v := hx
        have h6 : v = undef := by rw [← h5]; exact h4
        obtain ⟨_, _, hv, _⟩ := ho.len
        rw [h6] at hv; simp [undef] at hv
      · simp [upd, hj]
    | const c => rfl
    | global g => rfl
    | func g => rfl
  refine o_append ht s1 (ho.mono e1) r1 hxd (by show upd N f d u d = _; simp [upd, show d < N by simpa [Nat.blt_eq] using hd]) (by simpa using h0.1) (by simp; omega) ?_
  intro v' A' w2 e2 s2 o2
  exact h u v' A' I' w2 (e1.trans e2) s2 o2 o2.bd h0.2
end


/-! Small rules -/

theorem rint_in {v : Value} {n : Int} {I : Reg} {w : World} (h : rep I w v n) : v = .int .i64 n ∧ InR n := ⟨RInt.eq h, RInt.lo h, RInt.hi h⟩
theorem rlit {n : Int} (h1 : -9223372036854775808 ≤ n) (h2 : n ≤ 9223372036854775807) : RInt (.int .i64 n) n := ⟨rfl, h1, h2⟩
theorem inr_lit {n : Int} (h1 : -9223372036854775808 ≤ n) (h2 : n ≤ 9223372036854775807) : InR n := ⟨h1, h2⟩
theorem inr_min {a b : Int} (h1 : InR a) (h2 : InR b) : InR (min a b) := by unfold InR at *; omega
theorem inr_max {a b : Int} (h1 : InR a) (h2 : InR b) : InR (max a b) := by unfold InR at *; omega
theorem app_le {a b n : Nat} (h : (a + b) * (n + 1) ≤ 140737488355328) : a + b ≤ 9223372036854775807 := by
  have : a + b ≤ (a + b) * (n + 1) := Nat.le_mul_of_pos_right _ (by omega)
  omega
theorem mk_le {n m : Nat} (h : (m + 1) * n ≤ 281474976710656) : n ≤ 9223372036854775807 := by
  have : n ≤ (m + 1) * n := Nat.le_mul_of_pos_left _ (by omega)
  omega
theorem mk_le' {n m : Nat} (h : n * (m + 1) ≤ 281474976710656) : n ≤ 9223372036854775807 := by
  have : n ≤ n * (m + 1) := Nat.le_mul_of_pos_right _ (by omega)
  omega
theorem zero_run {P : Program} {t : TypeId} {z : Value} {w : World} (h : zrB P t z) : (zeroValue t).run P w = .ok z w := by
  unfold zrB at h
  cases hi : P.info? t with
  | none => simp [hi] at h
  | some i => simp only [hi, Option.bind_some] at h; simp [zeroValue, typeInfo, hi, h]

theorem OwnSl.flat {α : Type} [Rep α] (hf : ∀ {I I' : Reg} {w w' : World} {v : Value} {x : α}, rep I w v x → rep I' w' v x) {I I' : Reg} {w w' : World} {A : Own} {v : Value} {xs : List α} (h : OwnSl I w A v xs) : OwnSl I' w' A v xs := by
  rcases h.ex with h | ⟨b, arr, cap, e0, h1, h2, h3, h4, h5, h6⟩
  · exact ⟨.inl h⟩
  · exact ⟨.inr ⟨b, arr, cap, e0, h1, h2, h3, h4, h5, fun j hj => by obtain ⟨u, hu, hc⟩ := h6 j hj; exact ⟨u, hf hu, hc⟩⟩⟩
theorem OwnSl.flatI {I I' : Reg} {w w' : World} {A : Own} {v : Value} {xs : List Int} (h : OwnSl I w A v xs) : OwnSl I' w' A v xs := OwnSl.flat (fun h => h) h
theorem OwnSl.flatB {I I' : Reg} {w w' : World} {A : Own} {v : Value} {xs : List Bool} (h : OwnSl I w A v xs) : OwnSl I' w' A v xs := OwnSl.flat (fun h => h) h

/-- The callee has returned, and has made B: what was lent is the call's own again. -/
theorem St.back2 {I I2 : Reg} {w w' : World} {A B T : Own} (hs : St I w (A ++ T)) (e : Ext (grow I A) w I2 w') (s : St I2 w' (B ++ T)) : ∃ I3, Ext I w I3 w' ∧ St I3 w' (B ++ (A ++ T)) := by
  have hA : ∀ p ∈ A, ¬ I p.1 := fun p hp => (hs.own p (List.mem_append_left _ hp)).2
  refine ⟨fun b => I2 b ∧ ¬ ∃ p ∈ A, p.1 = b, ⟨e.os, e.tape, e.output, e.size, fun b hb => ⟨e.sub b (.inl hb), fun ⟨p, hp, he⟩ => hA p hp (he ▸ hb)⟩, fun b hb => e.keep b (.inl hb)⟩, fun b hb => s.imm b hb.1, ?_, ?_⟩
  · intro p hp
    rcases List.mem_append.1 hp with h | h
    · exact ⟨(s.own p (List.mem_append_left _ h)).1, fun hb => (s.own p (List.mem_append_left _ h)).2 hb.1⟩
    · rcases List.mem_append.1 h with h | h
      · exact ⟨(e.keep p.1 (.inr ⟨p, h, rfl⟩)).trans (hs.own p (List.mem_append_left _ h)).1, fun hb => hb.2 ⟨p, h, rfl⟩⟩
      · exact ⟨(s.own p (List.mem_append_right _ h)).1, fun hb => (s.own p (List.mem_append_right _ h)).2 hb.1⟩
  · have h1 := hs.nodup
    have h2 := s.nodup
    rw [List.map_append, List.nodup_append] at h1 h2 ⊢
    rw [List.map_append]
    refine ⟨h2.1, ?_, ?_⟩
    · rw [List.nodup_append]; exact h1
    · intro a ha b hb
      rcases List.mem_append.1 hb with hb | hb
      · rintro rfl
        obtain ⟨p, hp, rfl⟩ := List.mem_map.1 ha
        obtain ⟨q, hq, he⟩ := List.mem_map.1 hb
        exact (s.own p (List.mem_append_left _ hp)).2 (e.sub _ (.inr ⟨q, hq, he⟩))
      · exact h2.2.2 a ha b hb

/-- An own block is not written any more. -/
theorem freeze_blk {α : Type} [Rep α] {I : Reg} {w : World} {T : Own} {b : Nat} {cs : Array Value} {e : TypeId} {fr : Nat × Nat} {v : Value} {x : α} (hs : St I w ([(b, .cells cs e fr)] ++ T)) (hc : v.cells = cs) (hr : rep I w v x) :
    ∃ I', Ext I w I' w ∧ St I' w T ∧ I' (⟨b, 0, none⟩ : Addr).block ∧ Points w ⟨b, 0, none⟩ v ∧ rep I' w v x := by
  subst hc
  obtain ⟨he, hs'⟩ := hs.freeze
  refine ⟨_, he, hs', .inr ⟨_, List.mem_singleton.2 rfl, rfl⟩, ⟨rfl, fun j hj => ?_⟩, he.rep hr⟩
  rw [cell_of_block hs.heap]; simp

/-! Structs that are built -/

def fillC (places : List (Nat × Nat)) (cells : Array Value) : List (Nat × Array Value) → Option (Array Value)
  | [] => some cells
  | (i, c) :: rest =>
    match places[i]? with
    | none => none
    | some (off, size) => if c.size ≠ size || off + c.size > cells.size then none else fillC places (c.zipIdx.foldl (fun cs (c, j) => cs.setIfInBounds (off + j) c) cells) rest
def CellsOf : List (Nat × Value) → List (Nat × Array Value) → Prop
  | [], [] => True
  | p :: l, q :: m => p.1 = q.1 ∧ p.2.cells = q.2 ∧ CellsOf l m
  | _, _ => False
theorem fill_cells {places : List (Nat × Nat)} : ∀ {l : List (Nat × Value)} {m : List (Nat × Array Value)} {cells : Array Value}, CellsOf l m → Instr.fill (places.toArray[·]?) cells l = fillC places cells m
  | [], [], _, _ => rfl
  | [], _ :: _, _, h => h.elim
  | _ :: _, [], _, h => h.elim
  | (i, v) :: l, (j, c) :: m, cells, h => by
    obtain ⟨h1, h2, h3⟩ := h
    simp only at h1 h2
    subst h1 h2
    simp only [Instr.fill, fillC, List.getElem?_toArray]
    cases places[i]? with
    | none => rfl
    | some p =>
      obtain ⟨off, size⟩ := p
      simp only
      split
      · rfl
      · simpa using fill_cells (places := places) h3
def bldB (P : Program) (t : TypeId) : Option (List (Nat × Nat) × Array Value) :=
  match P.info? t, P.underlying t with
  | some it, some (.struct fields) =>
    match it.zero, fields.toList.mapM (fun f => (P.info? f.type).map fun i => (f.offset, i.size)) with
    | some z, some places => some (places, z.cells)
    | _, _ => none
  | some it, some (.array n e) =>
    match it.zero, P.info? e with
    | some z, some ie => some ((List.range n).map fun i => (i * ie.size, ie.size), z.cells)
    | _, _ => none
  | _, _ => none

/-- Field i of a struct that is at hand, one cell. -/
def fvB (P : Program) (t : TypeId) (i off : Nat) : Bool := match P.underlying t with
  | some (.struct fs) => match fs[i]? with
    | some fd => fd.offset == off && tyB P fd.type false 1
    | none => false
  | _ => false

section
variable {P : Program} {N : Nat} {ops : Array Oper} {R : Ending → World → Prop} {m : Bool} {K : Fr → World → Prop} {os : List Oper} {f : Fr} {w : World}
variable {dst : Option Tmp} {ty : TypeId} {pos : String} {af : Array Edge} {I : Reg} {T A : Own} {x y z : Operand} {t e u : TypeId} {sz nb : Nat} {kd : IntKind} {a b : Int}
variable {fn : FuncId} {k : List Item}

theorem o_buildS {ps : Array (Nat × Operand)} {places : List (Nat × Nat)} {zs vs : Array Value} {lc : List (Nat × Array Value)} (hb : bldB P t = some (places, zs)) (hs : ∃ fs, P.underlying t = some (.struct fs)) (hl : CellsOf (ps.toList.map fun p => (p.1, ev f p.2)) lc) (hf : fillC places zs lc = some vs)
    (h : WL P N ops R m K os (put N f dst (.agg vs)) w) : WL P N ops R m K (⟨dst, .build t ps, ty, pos, af, none⟩ :: os) f w := by
  have hbt : P.built t (ps.map fun (x : Nat × Operand) => match x with | (i, x) => (i, ev f x)).toList = some vs := by
    obtain ⟨fs, hu⟩ := hs
    unfold bldB at hb
    unfold Program.built
    cases hi : P.info? t with
    | none => simp [hi] at hb
    | some it =>
      simp only [hi, hu] at hb ⊢
      cases hz : it.zero with
      | none => simp [hz] at hb
      | some z =>
        cases hm : fs.toList.mapM (fun f => (P.info? f.type).map fun i => (f.offset, i.size)) with
        | none => simp [hz, hm] at hb
        | some pl =>
          simp only [hz, hm, Option.some.injEq, Prod.mk.injEq] at hb
          obtain ⟨rfl, rfl⟩ := hb
          simp only
          have := fill_cells (places := pl) (cells := z.cells) hl
          rw [hf] at this
          simpa using this
  refine wl_val ?_ h
  simp only [execOp, Sem.run_bind]
  rw [run_build w t _ vs hbt]
  rfl
theorem o_fieldX {i off : Nat} {cs : Array Value} {v : Value} (hf : fvB P t i off = true) (hx : ev f x = .agg cs) (hv : cs[off]? = some v)
    (h : WL P N ops R m K os (put N f dst v) w) : WL P N ops R m K (⟨dst, .field t x i, ty, pos, af, none⟩ :: os) f w := by
  unfold fvB at hf
  cases hu : P.underlying t with
  | none => simp [hu] at hf
  | some d =>
    cases d <;> simp only [hu, Bool.false_eq_true] at hf
    rename_i fs
    cases hi : fs[i]? with
    | none => simp [hi] at hf
    | some fd =>
      simp only [hi, Bool.and_eq_true, beq_iff_eq] at hf
      exact o_fieldV ⟨fs, fd, hu, hi, hf.1, hf.2⟩ hx hv h
theorem one1 {α : Type} [Rep α] {v : Value} {x : α} (ha : Rep.agg α = false) (h : rep I w v x) : v.oneCell' = true := Rep.one h v (by rw [cells1 ha h]; simp)
theorem OwnSl.one {α : Type} [Rep α] {v : Value} {xs : List α} (o : OwnSl I w A v xs) : v.oneCell' = true := by
  obtain ⟨a, c, h, _⟩ := o.len; subst h; rfl
theorem OwnSl.cells {α : Type} [Rep α] {v : Value} {xs : List α} (o : OwnSl I w A v xs) : v.cells = #[v] := by
  obtain ⟨a, c, h, _⟩ := o.len; subst h; rfl
theorem OwnMap.one {κ β : Type} [Rep κ] [Rep β] {v : Value} {xs : List (κ × β)} (o : OwnMap I w A v xs) : v.oneCell' = true := by
  obtain ⟨_, _, _, _, h, _⟩ := o.ex; subst h; rfl
theorem OwnMap.cells {κ β : Type} [Rep κ] [Rep β] {v : Value} {xs : List (κ × β)} (o : OwnMap I w A v xs) : v.cells = #[v] := by
  obtain ⟨_, _, _, _, h, _⟩ := o.ex; subst h; rfl
def One1 : List Value → Prop
  | [] => True
  | v :: l => v.oneCell' = true ∧ One1 l
theorem One1.out : ∀ {l : List Value}, One1 l → ∀ v ∈ l, v.oneCell' = true
  | [], _, v, h => by simp at h
  | u :: l, h, v, hv => by
    rcases List.mem_cons.1 hv with rfl | hv
    · exact h.1
    · exact One1.out h.2 v hv
theorem o_storeX {b o : Nat} {cs cs' : Array Value} {v : Value} (ht : tyB P t false 1 = true) (hs : St I w ([(b, .cells cs e (0, 0))] ++ T)) (hx : ev f x = .pointer (some ⟨b, o, none⟩)) (hy : ev f y = v) (hv : v.oneCell' = true) (ho : Nat.blt o cs.size = true) (hc : cs.setIfInBounds o v = cs')
    (h : ∀ w', Ext I w I w' → St I w' ([(b, .cells cs' e (0, 0))] ++ T) → WL P N ops R false K os (put N f dst undef) w') : WL P N ops R false K (⟨dst, .store t x y, ty, pos, af, none⟩ :: os) f w := by
  subst hc
  exact o_storeO ht hs hx hy hv (by simpa [Nat.blt_eq] using ho) h
theorem o_storeB {b n : Nat} {cs : Array Value} {vs : List Value} (ht : tyB P t true n = true) (hs : St I w ([(b, .cells cs e (0, 0))] ++ T)) (hx : ev f x = .pointer (some ⟨b, 0, none⟩)) (hy : ev f y = .agg ⟨vs⟩) (hn : vs.length = n) (hcs : cs.size = n) (h1 : One1 vs)
    (h : ∀ w', Ext I w I w' → St I w' ([(b, .cells ⟨vs⟩ e (0, 0))] ++ T) → WL P N ops R false K os (put N f dst undef) w') : WL P N ops R false K (⟨dst, .store t x y, ty, pos, af, none⟩ :: os) f w :=
  o_storeA ht hs hx hy hn hcs h1.out h
theorem o_notp {p : Prop} [Decidable p] (hx : ev f x = .bool (decide p)) (h : WL P N ops R m K os (put N f dst (.bool (decide (¬ p)))) w) : WL P N ops R m K (⟨dst, .unOp .not t x, ty, pos, af, none⟩ :: os) f w :=
  o_not hx (by rw [← decide_not]; exact h)
theorem o_nev (hx : ev f x = .int kd a) (hy : ev f y = .int kd b) (h : WL P N ops R m K os (put N f dst (.bool (decide (¬ (a = b))))) w) : WL P N ops R m K (⟨dst, .binOp .neq t x y u, ty, pos, af, none⟩ :: os) f w :=
  o_neqv hx hy (by rw [← decide_not]; exact h)
theorem o_negi {a : Int} (hx : ev f x = .int .i64 a) (hb : InR (0 - a)) (h : WL P N ops R m K os (put N f dst (.int .i64 (0 - a))) w) : WL P N ops R m K (⟨dst, .unOp .neg t x, ty, pos, af, none⟩ :: os) f w :=
  o_neg hx (by rw [wrap_in hb.1 hb.2]; exact h)
theorem wl_casen {d : Nat} {p : Prop} [Decidable p] (hd : Nat.blt d N = true) (hf : f d = .bool (decide (¬ p))) (h1 : ¬ p → WL P N ops R m K os (upd N f d (.bool true)) w) (h0 : p → WL P N ops R m K os (upd N f d (.bool false)) w) : WL P N ops R m K os f w :=
  wl_casep hd hf h1 (fun h => h0 (Decidable.not_not.1 h))
theorem wg_casen {S : World → Prop} {n : Nat} {l : Array Bool} {d : Nat} {p : Prop} [Decidable p] (hd : Nat.blt d N = true) (hf : f d = .bool (decide (¬ p))) (h1 : ¬ p → WG P fn N ops k R S n l (upd N f d (.bool true)) w) (h0 : p → WG P fn N ops k R S n l (upd N f d (.bool false)) w) : WG P fn N ops k R S n l f w :=
  wg_casep hd hf h1 (fun h => h0 (Decidable.not_not.1 h))
theorem wt_condn {c : Operand} {x y : Code} {p : Prop} [Decidable p] (hc : ev f c = .bool (decide (¬ p))) (h1 : ¬ p → WT P fn N (.code x :: k) R f w) (h0 : p → WT P fn N (.code y :: k) R f w) : WT P fn N (.code (.cond c x y) :: k) R f w :=
  wt_condp hc h1 (fun h => h0 (Decidable.not_not.1 h))

/-! Own slices: parts, making -/
theorem OwnSl.take' {α : Type} [Rep α] {b cap : Nat} {arr : Array Value} {xs : List α} {j m : Nat} (h6 : ElemsA I w (arr[·]?) xs) (h5 : cap * Rep.size α ≤ arr.size) (h4 : cap ≤ maxLen) (hm : m ≤ cap) (hj : j ≤ xs.length) (hjm : j ≤ m) :
    OwnSl I w [(b, .cells arr e (0, 0))] (.slice (some ⟨b, 0, none⟩) j m) (xs.take j) := by
  have hl : (xs.take j).length = j := by simp; omega
  exact ⟨.inr ⟨b, arr, m, _, rfl, by rw [hl], by rw [hl]; exact hjm, by omega, Nat.le_trans (Nat.mul_le_mul_right _ hm) h5, h6.take j⟩⟩

/-- s[:j] -/
theorem o_takeO {α : Type} [Rep α] {v : Value} {xs : List α} {j : Nat} (ht : slB P t e (Rep.size α) nb = true) (ho : OwnSl I w A v xs) (hx : ev f x = v) (hy : ev f y = .int kd a) (ha : a = (j : Int)) (hj : j ≤ xs.length)
    (h : ∀ v', OwnSl I w A v' (xs.take j) → WL P N ops R m K os (put N f dst v') w) : WL P N ops R m K (⟨dst, .slice t x none (some y) none, ty, pos, af, none⟩ :: os) f w := by
  have hs := slB_slc ht
  subst ha
  rcases ho.ex with ⟨rfl, rfl, rfl⟩ | ⟨b, arr, cap, e0, rfl, rfl, h3, h4, h5, h6⟩
  · obtain rfl : j = 0 := by simpa using hj
    refine wl_val ?_ (h (.slice none 0 0) ⟨.inl ⟨rfl, by simp, rfl⟩⟩)
    simp [execOp, Instr.sliceAt, run_underlying hs.under, Instr.slice, Instr.sliceBounds, Instr.sliceBound, hx, hy, asIntOf, hs.size]
  · refine wl_val ?_ (h _ (OwnSl.take' h6 h5 h4 (Nat.le_refl _) hj (by omega)))
    have hc : (0 : Int) ≤ j ∧ (j : Int) ≤ cap := by omega
    have hcj : j ≤ cap := by omega
    simp [execOp, Instr.sliceAt, run_underlying hs.under, Instr.slice, Instr.sliceBounds, Instr.sliceBound, hx, hy, asIntOf, hc, hcj, hs.size, addr_add]
/-- s[:j:j] -/
theorem o_takeO3 {α : Type} [Rep α] {v : Value} {xs : List α} {j : Nat} (ht : slB P t e (Rep.size α) nb = true) (ho : OwnSl I w A v xs) (hx : ev f x = v) (hy : ev f y = .int kd a) (hz : ev f z = .int kd b) (ha : a = (j : Int)) (hb : b = (j : Int)) (hj : j ≤ xs.length)
    (h : ∀ v', OwnSl I w A v' (xs.take j) → WL P N ops R m K os (put N f dst v') w) : WL P N ops R m K (⟨dst, .slice t x none (some y) (some z), ty, pos, af, none⟩ :: os) f w := by
  have hs := slB_slc ht
  subst ha hb
  rcases ho.ex with ⟨rfl, rfl, rfl⟩ | ⟨b, arr, cap, e0, rfl, rfl, h3, h4, h5, h6⟩
  · obtain rfl : j = 0 := by simpa using hj
    refine wl_val ?_ (h (.slice none 0 0) ⟨.inl ⟨rfl, by simp, rfl⟩⟩)
    simp [execOp, Instr.sliceAt, run_underlying hs.under, Instr.slice, Instr.sliceBounds, Instr.sliceBound, hx, hy, hz, asIntOf, hs.size]
  · refine wl_val ?_ (h _ (OwnSl.take' h6 h5 h4 (m := j) (by omega) hj (Nat.le_refl _)))
    have hc : (0 : Int) ≤ j ∧ (j : Int) ≤ cap := by omega
    have hcj : j ≤ cap := by omega
    simp [execOp, Instr.sliceAt, run_underlying hs.under, Instr.slice, Instr.sliceBounds, Instr.sliceBound, hx, hy, hz, asIntOf, hc, hcj, hs.size, addr_add]

/-- l[lo:] of an own slice, as a value -/
theorem o_subP {α : Type} [Rep α] {v : Value} {xs : List α} {j : Nat} {I0 : Reg} {w0 : World} (ht : slB P t e (Rep.size α) nb = true) (ho : OwnSl I0 w0 A v xs) (hj : j ≤ xs.length) (hx : ev f x = v) (hy : ev f y = .int kd a) (ha : a = (j : Int))
    (h : WL P N ops R m K os (put N f dst (subV v j (Rep.size α))) w) : WL P N ops R m K (⟨dst, .slice t x (some y) none none, ty, pos, af, none⟩ :: os) f w := by
  have hs := slB_slc ht
  obtain ⟨a', cap, hv, _⟩ := ho.len
  refine wl_val ?_ h
  subst ha
  have hc : (0 : Int) ≤ j ∧ (j : Int) ≤ xs.length := by omega
  simp [execOp, Instr.sliceAt, run_underlying hs.under, Instr.slice, Instr.sliceBounds, Instr.sliceBound, hx, hv, hy, asIntOf, hc, hs.size, subV]
  exact fun h => absurd h (by omega)

theorem o_copyP {α : Type} [Rep α] {v : Value} {xs : List α} {i j : Nat} (ht : slB P t e (Rep.size α) nb = true) (ho : OwnSl I w A v xs) (hs : St I w (A ++ T)) (hj : j = i + 1) (hi : i + 1 ≤ xs.length) (hx : ev f x = subV v j (Rep.size α)) (hy : ev f y = subV v i (Rep.size α))
    (h : ∀ n A' w', Ext I w I w' → St I w' (A' ++ T) → OwnSl I w' A' v (xs.take (i + 1) ++ (xs.drop i).take (xs.length - (i + 1))) → WL P N ops R m K os (put N f dst n) w') :
    WL P N ops R m K (⟨dst, .call ⟨.builtin .copy, #[x, y], #[t, t]⟩, ty, pos, af, none⟩ :: os) f w := o_copyO ht ho hs hi (hj ▸ hx) hy h
/-- A part of a slice, as a value. -/
def SlV (P : Program) (t : TypeId) (sv : Value) (lo hi : Option Nat) (v : Value) : Prop := ∀ (kd : IntKind) (w : World), (Instr.sliceAt t sv (lo.map fun n => .int kd (n : Int)) (hi.map fun n => .int kd (n : Int)) none).run P w = .ok v w
theorem at_take {α : Type} [Rep α] {v : Value} {xs : List α} {j : Nat} (ht : slB P t e (Rep.size α) nb = true) (hr : rep I w v xs) (hj : j ≤ xs.length) : ∃ v', rep I w v' (xs.take j) ∧ SlV P t v none (some j) v' := by
  obtain ⟨a', cap, hv, h1, h2, hp⟩ := rep_part hr
  have hs := slB_slc ht
  have := hp 0 j cap (Nat.zero_le _) hj (by omega) (Nat.le_refl _)
  simp only [List.drop_zero, Nat.sub_zero] at this
  refine ⟨_, this, fun kd w' => ?_⟩
  have hc : (0 : Int) ≤ j ∧ (j : Int) ≤ cap := by omega
  have hcj : j ≤ cap := by omega
  simp only [Instr.sliceAt, Sem.run_bind, run_underlying hs.under, Result.andThen_ok, Instr.slice, Instr.sliceBounds, Instr.sliceBound]
  simp [hv, asIntOf, hc, hcj, hs.size]
theorem at_drop {α : Type} [Rep α] {v : Value} {xs : List α} {j : Nat} (ht : slB P t e (Rep.size α) nb = true) (hr : rep I w v xs) (hj : j ≤ xs.length) : ∃ v', rep I w v' (xs.drop j) ∧ SlV P t v (some j) none v' := by
  obtain ⟨a', cap, hv, h1, h2, hp⟩ := rep_part hr
  have hs := slB_slc ht
  have := hp j xs.length cap hj (Nat.le_refl _) h1 (Nat.le_refl _)
  rw [List.take_of_length_le (by simp)] at this
  refine ⟨_, this, fun kd w' => ?_⟩
  have hc : (0 : Int) ≤ j ∧ (j : Int) ≤ xs.length := by omega
  simp [Instr.sliceAt, run_underlying hs.under, Instr.slice, Instr.sliceBounds, Instr.sliceBound, hv, asIntOf, hc, hj, hs.size]
theorem o_slT {sv v : Value} {j : Nat} (h0 : SlV P t sv none (some j) v) (hx : ev f x = sv) (hy : ev f y = .int kd a) (ha : a = (j : Int)) (h : WL P N ops R m K os (put N f dst v) w) : WL P N ops R m K (⟨dst, .slice t x none (some y) none, ty, pos, af, none⟩ :: os) f w :=
  wl_val (by subst ha; have this : (Instr.sliceAt t sv none (some (.int kd (j : Int))) none).run P w = .ok v w := h0 kd w; simp [execOp, hx, hy, this]) h
theorem o_slD {sv v : Value} {j : Nat} (h0 : SlV P t sv (some j) none v) (hx : ev f x = sv) (hy : ev f y = .int kd a) (ha : a = (j : Int)) (h : WL P N ops R m K os (put N f dst v) w) : WL P N ops R m K (⟨dst, .slice t x (some y) none none, ty, pos, af, none⟩ :: os) f w :=
  wl_val (by subst ha; have this : (Instr.sliceAt t sv (some (.int kd (j : Int))) none none).run P w = .ok v w := h0 kd w; simp [execOp, hx, hy, this]) h
theorem zero_elems {α : Type} [Rep α] {z : Value} {zd : α} {n : Nat} (hz : rep I w z zd) : ElemsA I w (((Array.range (n * Rep.size α)).map fun k => z.cells[k % z.cells.size]!)[·]?) (List.replicate n zd) := by
  intro j hj
  rw [List.length_replicate] at hj
  refine ⟨z, by rw [List.getElem_replicate]; exact hz, fun i hi => ?_⟩
  have hs := Rep.cells hz
  have hlt : j * Rep.size α + i < n * Rep.size α := by
    have : (j + 1) * Rep.size α ≤ n * Rep.size α := Nat.mul_le_mul_right _ hj
    rw [Nat.add_mul, Nat.one_mul] at this; omega
  have hm : (j * Rep.size α + i) % z.cells.size = i := by
    rw [hs, Nat.mul_comm, Nat.mul_add_mod]; exact Nat.mod_eq_of_lt (by omega)
  simp [hlt, hm, hi]

/-- make([]T, n) -/
theorem o_makeN {α : Type} [Rep α] {n : Nat} {zv : Value} {zd : α} (ht : slB P t e (Rep.size α) nb = true) (hs : St I w T) (hx : ev f x = .int .i64 a) (hy : ev f y = .int .i64 b) (ha : a = (n : Int)) (hb : b = (n : Int)) (hzv : zrB P e zv) (hzr : ∀ (I : Reg) (w : World), rep I w zv zd) (hnb : n * nb ≤ 281474976710656) (hn : n ≤ 9223372036854775807)
    (h : ∀ v A w', Ext I w I w' → St I w' (A ++ T) → OwnSl I w' A v (List.replicate n zd) → WL P N ops R m K os (put N f dst v) w') :
    WL P N ops R m K (⟨dst, .makeSlice t x y, ty, pos, af, none⟩ :: os) f w := by
  obtain ⟨i, z, hi, hsz, hbt, hz, hzs⟩ := (slB_slc ht).info
  have hu := (slB_slc ht).under
  obtain rfl : z = zv := by unfold zrB at hzv; simp only [hi, Option.bind_some, hz, Option.some.injEq] at hzv; exact hzv
  subst ha hb
  have hw : IntKind.i64.wrap (n : Int) = n := wrap_in (by omega) (by omega)
  have h1 : ¬ ((i.bytes : Int) * (n : Int) > 281474976710656) := by
    rw [hbt]
    have h2 : ((nb * n : Nat) : Int) ≤ ((281474976710656 : Nat) : Int) := Int.ofNat_le.2 (by rw [Nat.mul_comm]; exact hnb)
    rw [Int.natCast_mul] at h2; omega
  obtain ⟨e1, s1⟩ := hs.alloc (.cells ((Array.range (n * Rep.size α)).map fun k => z.cells[k % z.cells.size]!) e)
  by_cases h0 : n * Rep.size α = 0
  · have hn0 : n = 0 := by rcases Nat.mul_eq_zero.1 h0 with h | h; exact h; have := Rep.pos (α := α); omega
    subst hn0
    refine wl_val (v := .slice (some ⟨w.heap.size, 0, none⟩) 0 0) ?_ (h _ _ _ e1 s1 ⟨.inr ⟨_, _, 0, _, rfl, by simp, by simp, by unfold maxLen; omega, by simp, (zero_elems (hzr I w)).mono e1⟩⟩)
    have hw0 : IntKind.i64.wrap 0 = 0 := by decide
    simp [execOp, Instr.makeSlice, run_underlying hu, hx, hy, asInt, asIntOf, typeInfo, hi, hw0, sizeOf, newRow, show Array.range 0 = #[] from rfl]
  · refine wl_val (v := .slice (some ⟨w.heap.size, 0, none⟩) n n) ?_ (h _ _ _ e1 s1 ⟨.inr ⟨_, _, n, _, rfl, by simp, by simp, by unfold maxLen; omega, by simp, (zero_elems (hzr I w)).mono e1⟩⟩)
    simp [execOp, Instr.makeSlice, run_underlying hu, hx, hy, asInt, asIntOf, typeInfo, hi, hw, sizeOf, hsz, h0, newRow, zeroValue, hz]
    omega

/-! More ends -/
theorem ret_none {F : Func} {I0 I : Reg} {w0 : World} {Q : Value → Reg → World → Prop} (hf : P.funcs[fn]? = some F) (hF : F.results = #[]) (he : Ext I0 w0 I w) (hq : Q (.tuple #[]) I w) :
    WT P fn N (.code .ret :: k) (fun e w' => ∃ v I', e = .returned v ∧ Ext I0 w0 I' w' ∧ Q v I' w') f w := wt_ret hf (results_none hF) ⟨_, I, rfl, he, hq⟩
theorem ret_end_none {F : Func} {I0 I : Reg} {w0 : World} {Q : Value → Reg → World → Prop} (hf : P.funcs[fn]? = some F) (hF : F.results = #[]) (he : Ext I0 w0 I w) (hq : Q (.tuple #[]) I w) :
    WT P fn N [] (fun e w' => ∃ v I', e = .returned v ∧ Ext I0 w0 I' w' ∧ Q v I' w') f w := wt_end hf (results_none hF) ⟨_, I, rfl, he, hq⟩
theorem ret_three {F : Func} {i j l : Nat} {v u x : Value} {I0 : Reg} {w0 : World} {Q : Value → Reg → World → Prop} {I : Reg} (hf : P.funcs[fn]? = some F) (hF : F.results = #[.tmp i, .tmp j, .tmp l]) (hv : f i = v) (hu : f j = u) (hx : f l = x) (he : Ext I0 w0 I w)
    (hq : Q (.tuple #[v, u, x]) I w) : WT P fn N (.code .ret :: k) (fun e w' => ∃ v I', e = .returned v ∧ Ext I0 w0 I' w' ∧ Q v I' w') f w :=
  wt_ret hf (results_three hF) ⟨_, I, rfl, he, by rw [hv, hu, hx]; exact hq⟩
theorem results_cell {F : Func} {i : Nat} {b : Nat} {v : Value} (h : F.results = #[.cell i t]) (hi : f i = .pointer (some ⟨b, 0, none⟩)) (hl : (loadVar t ⟨b, 0, none⟩).run P w = .ok v w) : ∀ a, Is N a f → (results F a).run P w = .ok v w := fun a ha => by
  have := ha.2 i; simp only [Array.getD_eq_getD_getElem?] at this
  rw [hi] at this
  simp [results, h, this, asAddr, hl]
theorem ret_cellA {F : Func} {i b n : Nat} {cs : Array Value} {fr : Nat × Nat} {I0 I I1 : Reg} {w0 : World} {Q : Value → Reg → World → Prop} {T1 : Own} (hf : P.funcs[fn]? = some F) (hF : F.results = #[.cell i t]) (ht : tyB P t true n = true) (hs : St I1 w ([(b, .cells cs e fr)] ++ T1))
    (hi : f i = .pointer (some ⟨b, 0, none⟩)) (hn : cs.size = n) (he : Ext I0 w0 I w) (hq : Q (.agg cs) I w) : WT P fn N (.code .ret :: k) (fun e w' => ∃ v I', e = .returned v ∧ Ext I0 w0 I' w' ∧ Q v I' w') f w := by
  have := run_loadCells_list (P := P) (w := w) ⟨b, 0, none⟩ cs.toList (fun j u hj => by
    rw [addr_add, cell_of_block hs.heap, Nat.zero_add]
    rw [Array.getElem?_toList] at hj; exact hj)
  rw [show cs.toList.length = cs.size from rfl, hn] at this
  exact wt_ret hf (results_cell hF hi (v := .agg cs) (by simp [loadVar, (tyB_run (w := w) ht).1, (tyB_run (w := w) ht).2, this])) ⟨_, I, rfl, he, hq⟩
theorem ret_cell1 {F : Func} {i b : Nat} {v : Value} {fr : Nat × Nat} {I0 I I1 : Reg} {w0 : World} {Q : Value → Reg → World → Prop} {T1 : Own} (hf : P.funcs[fn]? = some F) (hF : F.results = #[.cell i t]) (ht : tyB P t false 1 = true) (hs : St I1 w ([(b, .cells #[v] e fr)] ++ T1))
    (hi : f i = .pointer (some ⟨b, 0, none⟩)) (he : Ext I0 w0 I w) (hq : Q v I w) : WT P fn N (.code .ret :: k) (fun e w' => ∃ v I', e = .returned v ∧ Ext I0 w0 I' w' ∧ Q v I' w') f w := by
  have hc : w.cell? ⟨b, 0, none⟩ = some v := by rw [cell_of_block hs.heap]; rfl
  exact wt_ret hf (results_cell hF hi (v := v) (by simp [loadVar, (tyB_run (w := w) ht).1, hc])) ⟨_, I, rfl, he, hq⟩
end

end Go.X
