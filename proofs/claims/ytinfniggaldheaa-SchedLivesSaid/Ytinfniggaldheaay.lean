/-
  The law SchedPlans: it returns true.
-/
import Derived.Test.Ytinfniggaldheaax
namespace Go.Proofs.Ytinfniggaldheaa
open Go Go.X Go.Vs

theorem sched_live_nil {σ : Type} {parts : List (List Int)} {E : Reg → World → Own → Value → σ → Prop} {F : σ × (List Int) × (List Int) × Unit → (σ × Unit → Prop) → Prop} {e : σ} {Q : σ × Unit → Prop} (hn : parts.length ≤ 1000000) (hp : ∀ p ∈ parts, p.length ≤ 1000000) (h : Q (e, ())) : sched_live parts [] E F e Q := sched_live_w (by
  unfold sched_live_v
  refine sched_sets_ok hn hp ?_
  intro _
  exact ⟨fun _ e' _ _ _ => e' = e, rfl, fun j hj => by simp at hj, fun e' _ _ _ he => by dsimp only at he ⊢; rw [he]; exact h⟩)

theorem law42_lives_ok {Q : Bool → Prop} (h : Q true) : law42_lives Q := law42_lives_w (by
  unfold law42_lives_v
  refine sched_Plan_ok (by decide) (by decide) (by decide) ?_
  have e : schSteps [[0, 1], [1, 2], [2]] (setOf [2, 1, 5]) (finOf [[0, 1], [1, 2], [2]] [2, 1, 5]) ([[0, 1], [1, 2], [2]] : List (List Int)).length = [⟨2, [5]⟩, ⟨1, [2]⟩, ⟨0, [1]⟩] := by decide
  rw [e]
  intro _
  refine ⟨fun _ => ⟨by decide, fun _ => ⟨fun _ => ⟨by decide, fun _ => ⟨fun _ => ⟨by decide, by decide, fun _ => ⟨fun _ => ⟨by decide, fun _ => ⟨fun _ => ⟨by decide, fun _ => ⟨fun _ => ⟨by decide, by decide, fun _ => ⟨fun _ => ⟨by decide, fun _ => ⟨fun _ => ?_, fun c => absurd rfl c⟩⟩, fun c => absurd rfl c⟩⟩, fun c => absurd rfl c⟩⟩, fun c => absurd rfl c⟩⟩, fun c => absurd rfl c⟩⟩, fun c => absurd rfl c⟩⟩, fun c => absurd rfl c⟩⟩, fun c => absurd rfl c⟩
  refine sched_Widest_w (by
    unfold sched_Widest_v
    refine sched_live_nil (by simp) (by simp) ?_
    intro _
    exact h))

theorem few_bounds {parts : List (List Int)} {out : List Int} {l : List Ref42_Step} (h : fewB parts out l = true) : parts.length ≤ 8 ∧ (∀ p ∈ parts, p.length ≤ 10) ∧ out.length ≤ 12 ∧ l.length ≤ 10 ∧ ∀ x ∈ l, x.Out.length ≤ 10 := by
  unfold fewB at h
  simp only [Bool.and_eq_true, List.all_eq_true, decide_eq_true_eq] at h
  exact ⟨h.1.1.2, h.1.1.1.1, h.1.2, h.2, h.1.1.1.2⟩

theorem law42_SchedPlans_ok {parts : List (List Int)} {out : List Int} {Q : Bool → Prop} (h : Q true) : law42_SchedPlans parts out Q := law42_SchedPlans_w (by
  unfold law42_SchedPlans_v
  refine law42_few_ok ⟨fun _ => law42_lives_ok h, fun c => ?_⟩
  obtain ⟨hn, hp, ho, _, _⟩ := few_bounds (by simpa using c)
  refine sched_Plan_ok hn hp ho (ref42_Plan_ok (by omega) (fun p hx => by have := hp p hx; omega) (by omega) ?_)
  intro _ _
  have l1 : (schSteps parts (setOf out) (finOf parts out) parts.length).length = parts.length := by simp [schSteps]
  have l2 : (refSteps parts (setOf out) (finOf parts out) parts.length).length = parts.length := by simp [refSteps]
  refine ⟨fun c => absurd (by rw [l1, l2]) c, fun _ _ => ?_⟩
  refine ⟨fun _ => True, trivial, fun j hj _ => ?_, fun _ => law42_lives_ok h⟩
  have hj2 : j < (refSteps parts (setOf out) (finOf parts out) parts.length).length := by rw [l2, ← l1]; exact hj
  have e1 : (schSteps parts (setOf out) (finOf parts out) parts.length)[j].Part = (refSteps parts (setOf out) (finOf parts out) parts.length)[j].Part := by simp [schSteps, refSteps]
  have e2 : (schSteps parts (setOf out) (finOf parts out) parts.length)[j].Out = (refSteps parts (setOf out) (finOf parts out) parts.length)[j].Out := by simp [schSteps, refSteps]
  refine ⟨hj, fun _ => ⟨hj2, fun _ => ⟨fun c => absurd e1 c, fun _ => ⟨hj, hj2, law42_same_ok ?_⟩⟩⟩⟩
  rw [e2]
  exact ⟨fun c => by simp at c, fun _ => trivial⟩)
theorem law42_SchedPlans_ret {I : Reg} {w : World} {T : Own} {v0 v1 : Value} {parts : List (List Int)} {out : List Int} (s0 : St I w T) (r0 : rep I w v0 parts) (r1 : rep I w v1 out) :
    Ret Try.prog 7 [v0, v1] I w fun r I' w' => St I' w' T ∧ r = .bool true :=
  (Wp.c0 (law42_SchedPlans_ok (Q := fun b => b = true) rfl) ⟨_, _, rfl, r0, _, _, rfl, r1, rfl, rfl⟩ s0).mono fun r I' w' _ ⟨A', b, h1, ⟨h2, h3⟩, h4⟩ => ⟨by subst h2; exact h1, by subst h4; exact h3⟩
end Go.Proofs.Ytinfniggaldheaa
