/-
  The law SchedPlans: it returns true.
-/
import Derived.Test.Ytinfniggaldheabx
namespace Go.Proofs.Ytinfniggaldheab
open Go Go.X Go.Vs

theorem sched_live_nil {σ : Type} {parts : List (List Int)} {E : Reg → World → Own → Value → σ → Prop} {F : σ × (List Int) × (List Int) × Unit → (σ × Unit → Prop) → Prop} {e : σ} {Q : σ × Unit → Prop} (hn : parts.length ≤ 1000000) (hp : ∀ p ∈ parts, p.length ≤ 1000000) (h : Q (e, ())) : sched_live parts [] E F e Q := sched_live_w (by
  unfold sched_live_v
  refine sched_sets_ok hn hp ?_
  intro _
  exact ⟨fun _ e' _ _ _ => e' = e, rfl, fun j hj => by simp at hj, fun e' _ _ _ he => by dsimp only at he ⊢; rw [he]; exact h⟩)

theorem law42_lives_ok {Q : Bool → Prop} (h : Q true) : law42_lives Q := law42_lives_w (by
  unfold law42_lives_v
  refine sched_Plan_ok (by decide) (by decide) (by decide) ?_
  have e : schSteps [[0, 1], [1, 2], [2]] (setOf [2, 1, 5]) (finOf [[0, 1], [1, 2], [2]] [2, 1, 5]) ([[0, 1], [1, 2], [2]] : List (List Int)).length = [⟨2, [5]⟩, ⟨1, [2]⟩, ⟨0, [1]⟩] := by decide
  rw [e]
  intro _
  refine ⟨fun _ => ⟨by decide, fun _ => ⟨fun _ => ⟨by decide, fun _ => ⟨fun _ => ⟨by decide, by decide, fun _ => ⟨fun _ => ⟨by decide, fun _ => ⟨fun _ => ⟨by decide, fun _ => ⟨fun _ => ⟨by decide, by decide, fun _ => ⟨fun _ => ⟨by decide, fun _ => ⟨fun _ => ?_, fun c => absurd rfl c⟩⟩, fun c => absurd rfl c⟩⟩, fun c => absurd rfl c⟩⟩, fun c => absurd rfl c⟩⟩, fun c => absurd rfl c⟩⟩, fun c => absurd rfl c⟩⟩, fun c => absurd rfl c⟩⟩, fun c => absurd rfl c⟩
  refine sched_Widest_w (by
    unfold sched_Widest_v
    refine sched_live_nil (by simp) (by simp) ?_
    intro _
    exact h))

theorem few_bounds {parts : List (List Int)} {out : List Int} {l : List Ref42_Step} (h : fewB parts out l = true) : parts.length ≤ 8 ∧ (∀ p ∈ parts, p.length ≤ 10) ∧ out.length ≤ 12 ∧ l.length ≤ 10 ∧ ∀ x ∈ l, x.Out.length ≤ 10 := by
  unfold fewB at h
  simp only [Bool.and_eq_true, List.all_eq_true, decide_eq_true_eq] at h
  exact ⟨h.1.1.2, h.1.1.1.1, h.1.2, h.2, h.1.1.1.2⟩

end Go.Proofs.Ytinfniggaldheab
