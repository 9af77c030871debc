/-
  Live variables and widths of a list of steps, in the program and in its reference.
-/
import Derived.Test.Ytinfniggaldheaby
namespace Go.Proofs.Ytinfniggaldheab
open Go Go.X Go.Vs

/-- The variables of part p, if there is one. -/
def partOf (parts : List (List Int)) (p : Int) : List Int := if 0 ≤ p ∧ p < parts.length then pt parts p.toNat else []
def was (parts : List (List Int)) (pa : List Int) (m : Nat) : List Int := ((pa.take m).map fun p => setOf (partOf parts p)).flatten
def goneP (ou : List (List Int)) (m : Nat) (v : Int) : Bool := (ou.take m).any fun o => decide (v ∈ o)
def liveL (parts : List (List Int)) (pa : List Int) (ou : List (List Int)) (m : Nat) : List Int := (setOf (was parts pa m)).filter fun v => !(goneP ou m v)

theorem was_succ {parts : List (List Int)} {pa : List Int} {m : Nat} (h : m < pa.length) : was parts pa (m + 1) = was parts pa m ++ setOf (partOf parts pa[m]) := by
  unfold was; rw [List.take_succ_eq_append_getElem h, List.map_append, List.flatten_append, List.map_singleton, List.flatten_singleton]
theorem goneP_succ {ou : List (List Int)} {m : Nat} (h : m < ou.length) {v : Int} : goneP ou (m + 1) v = (goneP ou m v || decide (v ∈ ou[m])) := by
  unfold goneP; rw [List.take_succ_eq_append_getElem h, List.any_append]; simp
theorem partOf_len {parts : List (List Int)} (hp : ∀ p ∈ parts, p.length ≤ 10) (p : Int) : (partOf parts p).length ≤ 10 := by
  unfold partOf
  split
  · unfold pt
    cases hh : parts[p.toNat]? with
    | none => simp
    | some p => exact hp p (List.mem_of_getElem? hh)
  · simp
theorem was_len {parts : List (List Int)} (hp : ∀ p ∈ parts, p.length ≤ 10) {pa : List Int} {m : Nat} : m ≤ pa.length → (was parts pa m).length ≤ m * 10 := by
  induction m with
  | zero => intro _; simp [was]
  | succ m ih =>
    intro h
    rw [was_succ (by omega), List.length_append]
    have := ih (by omega); have := Nat.le_trans (length_setOf _) (partOf_len hp (pa[m]'(by omega))); omega

def paR (l : List Ref42_Step) : List Int := l.map (·.Part)
def ouR (l : List Ref42_Step) : List (List Int) := l.map (·.Out)

def liveNs (parts : List (List Int)) (pa : List Int) (ou : List (List Int)) (n : Nat) : List Int := (List.range n).map fun i => ((liveL parts pa ou (i + 1)).length : Int)
theorem liveNs_succ {parts : List (List Int)} {pa : List Int} {ou : List (List Int)} {n : Nat} : liveNs parts pa ou (n + 1) = liveNs parts pa ou n ++ [((liveL parts pa ou (n + 1)).length : Int)] := by
  unfold liveNs; rw [List.range_succ, List.map_append]; rfl
/-- What is at hand during step i. -/
def wideN (parts : List (List Int)) (pa : List Int) (ou : List (List Int)) (i : Nat) : Nat := (setOf (liveL parts pa ou i ++ setOf (partOf parts (pa.getD i 0)))).length
def widest (parts : List (List Int)) (pa : List Int) (ou : List (List Int)) : Nat → Nat
  | 0 => 0
  | n + 1 => max (widest parts pa ou n) (wideN parts pa ou n)
def paS (l : List Sched_Step) : List Int := l.map (·.Part)
def ouS (l : List Sched_Step) : List (List Int) := l.map (·.Out)

/-- What live does with a function that is called with each step's variables. -/
theorem sched_live_ok {σ : Type} {parts : List (List Int)} {l : List Sched_Step} {E : Reg → World → Own → Value → σ → Prop} {F : σ × (List Int) × (List Int) × Unit → (σ × Unit → Prop) → Prop} {e : σ} {Q : σ × Unit → Prop} (hn : parts.length ≤ 8) (hp : ∀ p ∈ parts, p.length ≤ 10) (hl : l.length ≤ 10) (ho : ∀ x ∈ l, x.Out.length ≤ 12)
    (st : Nat → σ) (h0 : st 0 = e) (hF : ∀ i a b (Q : σ × Unit → Prop), i < l.length → a.length = wideN parts (paS l) (ouS l) i → b.length = (liveL parts (paS l) (ouS l) (i + 1)).length → Q (st (i + 1), ()) → F (st i, a, b, ()) Q) (h : Q (st l.length, ())) : sched_live parts l E F e Q := sched_live_w (by
  unfold sched_live_v
  refine sched_sets_ok (by omega) (fun p hx => by have := hp p hx; omega) ?_
  intro _
  have hpl : (paS l).length = l.length := by simp [paS]
  have hol : (ouS l).length = l.length := by simp [ouS]
  have hx1l : (parts.map setOf).length = parts.length := by simp
  refine ⟨fun j e' p c g => e' = st j ∧ p = parts.map setOf ∧ c = setOf (was parts (paS l) j) ∧ inc g = true ∧ g.length ≤ j * 12 ∧ ∀ v, decide (v ∈ g) = goneP (ouS l) j v, ⟨h0.symm, rfl, rfl, rfl, by simp, fun v => rfl⟩, ?_, ?_⟩
  · rintro j hj e' p c g ⟨rfl, rfl, rfl, hgi, hgl, hg⟩
    refine ⟨hj, ?_⟩
    have hpg : l[j].Part = (paS l)[j]'(by omega) := by simp [paS]
    have hog : l[j].Out = (ouS l)[j]'(by omega) := by simp [ouS]
    have hwl := was_len hp (pa := paS l) (m := j) (by omega)
    have hcl := Nat.le_trans (length_setOf (was parts (paS l) j)) hwl
    have hnl := Nat.le_trans (length_setOf _) (partOf_len hp ((paS l)[j]'(by omega)))
    have hoj := ho _ (List.getElem_mem hj)
    -- what follows once the part is known
    have less : setOf ((setOf (was parts (paS l) j)).filter fun v => !(decide (v ∈ g))) = liveL parts (paS l) (ouS l) j := by
      rw [setOf_inc (inc_filter (inc_setOf _))]
      unfold liveL
      exact List.filter_congr (fun v _ => by rw [hg])
    have came : setOf [setOf (was parts (paS l) j), setOf (partOf parts ((paS l)[j]'(by omega)))].flatten = setOf (was parts (paS l) (j + 1)) := by
      apply inc_ext (inc_setOf _) (inc_setOf _)
      intro v
      rw [was_succ (by omega), mem_setOf, mem_setOf]; simp [mem_setOf]
    have goneS : ∀ v, decide (v ∈ setOf [g, l[j].Out].flatten) = goneP (ouS l) (j + 1) v := fun v => by
      rw [goneP_succ (by omega), ← hg v, ← hog, Bool.eq_iff_iff]
      simp [mem_setOf]
    have goneL : (setOf [g, l[j].Out].flatten).length ≤ (j + 1) * 12 := by
      have := length_setOf [g, l[j].Out].flatten
      simp at this ⊢; omega
    have llen : (liveL parts (paS l) (ouS l) j).length ≤ 100 := Nat.le_trans (List.length_filter_le _ _) (by omega)
    have less2 : setOf ((setOf (was parts (paS l) (j + 1))).filter fun v => !(decide (v ∈ setOf [g, l[j].Out].flatten))) = liveL parts (paS l) (ouS l) (j + 1) := by
      rw [setOf_inc (inc_filter (inc_setOf _))]
      unfold liveL
      exact List.filter_congr (fun v _ => by rw [goneS])
    have hwl2 := Nat.le_trans (length_setOf (was parts (paS l) (j + 1))) (was_len hp (pa := paS l) (m := j + 1) (by omega))
    have wid : (setOf [liveL parts (paS l) (ouS l) j, setOf (partOf parts ((paS l)[j]'(by omega)))].flatten).length = wideN parts (paS l) (ouS l) j := by
      unfold wideN
      rw [show (paS l).getD j 0 = (paS l)[j]'(by omega) by simp [List.getD, show j < (paS l).length by omega]]
      congr 2; simp
    have step : ∀ now : List Int, now = setOf (partOf parts ((paS l)[j]'(by omega))) → ∀ V : σ → List (List Int) → List Int → List Int → Prop,
        V (st (j + 1)) (parts.map setOf) (setOf (was parts (paS l) (j + 1))) (setOf [g, l[j].Out].flatten) →
        vset_Less (setOf (was parts (paS l) j)) g (fun x23 => vset_Union [x23, now] fun x29 => Jn2 (fun came31 gone32 => vset_Less came31 gone32 (fun x37 => F (st j, x29, x37, ()) (fun x44 => V x44.1 (parts.map setOf) came31 gone32)))
          (fun M30 => vset_Union [setOf (was parts (paS l) j), now] (fun x55 => vset_Union [g, l[j].Out] (fun x59 => M30 x55 x59)))) := by
      rintro now rfl V hV
      refine vset_Less_ok (by omega) ?_
      rw [less]
      refine vset_Union_ok (by simp; omega) ?_
      refine ⟨fun a b => a = setOf (was parts (paS l) (j + 1)) ∧ b = setOf [g, l[j].Out].flatten, ?_, ?_⟩
      · rintro a b ⟨rfl, rfl⟩
        refine vset_Less_ok (by omega) ?_
        rw [less2]
        exact hF j _ _ _ hj wid rfl hV
      · refine vset_Union_ok (by simp; omega) (vset_Union_ok (by simp; omega) ⟨came, rfl⟩)
    refine ⟨fun c _ => ?_, fun c => ?_⟩
    · refine ⟨fun now => now = setOf (partOf parts ((paS l)[j]'(by omega))), ?_, ?_⟩
      · rintro now hnow
        exact step now hnow (fun e' p c g => e' = st (j + 1) ∧ p = parts.map setOf ∧ c = setOf (was parts (paS l) (j + 1)) ∧ inc g = true ∧ g.length ≤ (j + 1) * 12 ∧ ∀ v, decide (v ∈ g) = goneP (ouS l) (j + 1) v) ⟨rfl, rfl, rfl, inc_setOf _, goneL, goneS⟩
      · refine ⟨fun d => ?_, fun d => ?_⟩
        · have hlt : l[j].Part.toNat < parts.length := by rw [hx1l] at d; omega
          refine ⟨c, by rw [hx1l]; exact hlt, ?_⟩
          rw [hpg] at c hlt d
          rw [partOf, if_pos (by rw [hx1l] at d; exact ⟨c, d⟩)]
          simp only [List.getElem_map, hpg, pt_get hlt]
        · rw [hpg, hx1l] at d
          rw [partOf, if_neg (by omega)]; rfl
    · refine ⟨_, fun h => h, ?_⟩
      refine step [] ?_ (fun e' p c g => e' = st (j + 1) ∧ p = parts.map setOf ∧ c = setOf (was parts (paS l) (j + 1)) ∧ inc g = true ∧ g.length ≤ (j + 1) * 12 ∧ ∀ v, decide (v ∈ g) = goneP (ouS l) (j + 1) v) ⟨rfl, rfl, rfl, inc_setOf _, goneL, goneS⟩
      rw [hpg] at c
      rw [partOf, if_neg (by omega)]; rfl
  · rintro e' p c g ⟨rfl, rfl, rfl, _, _, _⟩
    exact h)

theorem sched_Live_ok {parts : List (List Int)} {out : List Int} {l : List Sched_Step} {Q : List Int → Prop} (hn : parts.length ≤ 8) (hp : ∀ p ∈ parts, p.length ≤ 10) (hl : l.length ≤ 10) (ho : ∀ x ∈ l, x.Out.length ≤ 12) (h : Q (liveNs parts (paS l) (ouS l) l.length)) : sched_Live parts out l Q := sched_Live_w (by
  unfold sched_Live_v
  refine sched_live_ok hn hp hl ho (liveNs parts (paS l) (ouS l)) rfl (fun i a b Q hi ha hb hQ => sched_Live_1_w ?_) h
  unfold sched_Live_1_v
  intro _
  refine ⟨by simp [liveNs]; omega, ?_⟩
  rw [hb, ← liveNs_succ]; exact hQ)
theorem sched_Widest_ok {parts : List (List Int)} {out : List Int} {l : List Sched_Step} {Q : Int → Prop} (hn : parts.length ≤ 8) (hp : ∀ p ∈ parts, p.length ≤ 10) (hl : l.length ≤ 10) (ho : ∀ x ∈ l, x.Out.length ≤ 12) (h : Q (widest parts (paS l) (ouS l) l.length)) : sched_Widest parts out l Q := sched_Widest_w (by
  unfold sched_Widest_v
  refine sched_live_ok hn hp hl ho (fun n => (widest parts (paS l) (ouS l) n : Int)) rfl (fun i a b Q hi ha hb hQ => sched_Widest_1_w ?_) h
  unfold sched_Widest_1_v
  intro _
  dsimp only
  rw [ha]
  rw [show max (widest parts (paS l) (ouS l) i : Int) (wideN parts (paS l) (ouS l) i : Int) = (widest parts (paS l) (ouS l) (i + 1) : Nat) by rw [widest]; omega]
  exact hQ)
end Go.Proofs.Ytinfniggaldheab
