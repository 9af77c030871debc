/-
  SchedEarly: the schedule that Plan gives is right, its steps take each variable out at the last part that has it, and what is live is as counted.
-/
import Derived.Test.Ytinfniggaldheaby
import Derived.Test.Ytinfniggaldheabl
namespace Go.Proofs.Ytinfniggaldheab
open Go Go.X Go.Vs

theorem keys_mset {k : Int} {b : Bool} : ∀ {m : List (Int × Bool)}, (mset m k b).map (·.1) = if k ∈ m.map (·.1) then m.map (·.1) else m.map (·.1) ++ [k]
  | [] => by simp [mset]
  | p :: m => by
    have ih := keys_mset (k := k) (b := b) (m := m)
    unfold mset
    by_cases h : p.1 = k
    · rw [if_pos h, if_pos (by simp [h])]; simp
    · rw [if_neg h, List.map_cons, ih, List.map_cons]
      have : k ∈ p.1 :: m.map (·.1) ↔ k ∈ m.map (·.1) := by rw [List.mem_cons]; exact ⟨fun hh => hh.elim (fun e => absurd e.symm h) id, Or.inr⟩
      by_cases h2 : k ∈ m.map (·.1)
      · rw [if_pos h2, if_pos (this.2 h2)]
      · rw [if_neg h2, if_neg (fun c => h2 (this.1 c))]; rfl
theorem keys_mdel {k : Int} : ∀ {m : List (Int × Bool)}, (mdel m k).map (·.1) = (m.map (·.1)).erase k
  | [] => by simp [mdel]
  | p :: m => by
    have ih := keys_mdel (k := k) (m := m)
    unfold mdel
    rw [List.map_cons, List.erase_cons]
    by_cases h : p.1 = k
    · rw [if_pos h, if_pos (by simpa using h)]
    · rw [if_neg h, if_neg (by simpa using h), List.map_cons, ih]
theorem sub_le : ∀ {l m : List Int}, l.Nodup → (∀ v ∈ l, v ∈ m) → l.length ≤ m.length
  | [], m, _, _ => by simp
  | x :: l, m, hn, h => by
    obtain ⟨h1, h2⟩ := List.nodup_cons.1 hn
    have := sub_le (l := l) (m := m.erase x) h2 (fun v hv => (List.mem_erase_of_ne (fun e => h1 (by rw [← e]; exact hv))).2 (h v (by simp [hv])))
    have hx := h x (by simp)
    have h3 := List.length_erase_of_mem hx
    have h4 := List.length_pos_of_mem hx
    simp only [List.length_cons]; omega
theorem mem_takeS {l : List Int} {i : Nat} (hi : i < l.length) {v : Int} : v ∈ l.take (i + 1) ↔ v ∈ l.take i ∨ v = l[i] := by
  rw [List.take_succ_eq_append_getElem hi, List.mem_append, List.mem_singleton]

theorem widest_ge {parts : List (List Int)} {pa : List Int} {ou : List (List Int)} : ∀ {n i : Nat}, i < n → wideN parts pa ou i ≤ widest parts pa ou n
  | 0, i, h => by omega
  | n + 1, i, h => by
    unfold widest
    rcases Nat.lt_or_ge i n with h1 | h1
    · have := widest_ge (parts := parts) (pa := pa) (ou := ou) h1; omega
    · have : i = n := by omega
      subst this; omega
theorem live_nodup {parts : List (List Int)} {pa : List Int} {ou : List (List Int)} {m : Nat} : (liveL parts pa ou m).Nodup := inc_nodup (inc_filter (inc_setOf _))
theorem mem_live {parts : List (List Int)} {pa : List Int} {ou : List (List Int)} {m : Nat} {v : Int} : v ∈ liveL parts pa ou m ↔ v ∈ was parts pa m ∧ goneP ou m v = false := by
  unfold liveL; rw [List.mem_filter, mem_setOf]; simp
theorem live_wide {parts : List (List Int)} {pa : List Int} {ou : List (List Int)} {i : Nat} (hp : i < pa.length) (ho : i < ou.length) : (liveL parts pa ou (i + 1)).length ≤ wideN parts pa ou i :=
  sub_le live_nodup (fun v hv => by
    obtain ⟨h1, h2⟩ := mem_live.1 hv
    rw [was_succ hp, List.mem_append] at h1
    rw [goneP_succ ho, Bool.or_eq_false_iff] at h2
    rw [mem_setOf, List.mem_append]
    rcases h1 with h1 | h1
    · exact Or.inl (mem_live.2 ⟨h1, h2.1⟩)
    · rw [gDi hp]; exact Or.inr h1)

theorem finOf_perm (parts : List (List Int)) (out : List Int) : (finOf parts out).Perm (List.range parts.length) := by
  obtain ⟨rest, h1, h2⟩ := planSeq_perm (parts := parts) (gone := setOf out) parts.length (List.range parts.length) [] (by simp)
  unfold finOf; rw [h1]; simpa using h2

section
variable {parts : List (List Int)} {out : List Int} {fin : List Nat}
theorem sch_len : (schSteps parts (setOf out) fin parts.length).length = parts.length := by simp [schSteps]
theorem sch_part {i : Nat} (hi : i < (schSteps parts (setOf out) fin parts.length).length) : (schSteps parts (setOf out) fin parts.length)[i].Part = (fin.getD i 0 : Nat) := by simp [schSteps]
theorem sch_out {i : Nat} (hi : i < (schSteps parts (setOf out) fin parts.length).length) : (schSteps parts (setOf out) fin parts.length)[i].Out = outOf parts (setOf out) fin i := by simp [schSteps]
end

theorem early_right {parts : List (List Int)} {out : List Int} {fin : List Nat} (hperm : fin.Perm (List.range parts.length)) {l : List Sched_Step} (hl : l.length = parts.length)
    (hpt : ∀ {i : Nat} (hi : i < l.length), l[i].Part = (fin.getD i 0 : Nat)) (hot : ∀ {i : Nat} (hi : i < l.length), l[i].Out = outOf parts (setOf out) fin i) : RightP parts out (paS l) (ouS l) := by
  have hpl : (paS l).length = l.length := by simp [paS]
  have hol : (ouS l).length = l.length := by simp [ouS]
  have hfl : fin.length = parts.length := by rw [hperm.length_eq]; simp
  have hnd : fin.Nodup := hperm.nodup_iff.2 List.nodup_range
  have hinj : ∀ i k, i < k → k < parts.length → fin.getD i 0 ≠ fin.getD k 0 := fun i k h1 h2 => by
    rw [gD (by omega), gD (by omega)]
    exact (List.pairwise_iff_getElem.1 hnd) i k (by omega) (by omega) h1
  have hpa : ∀ i, i < parts.length → (paS l).getD i 0 = (fin.getD i 0 : Nat) := fun i hi => by
    rw [gDi (by omega), ← hpt (by omega)]; simp [paS]
  have hou : ∀ i, i < parts.length → (ouS l).getD i [] = outOf parts (setOf out) fin i := fun i hi => by
    rw [gDl (by omega), ← hot (by omega)]; simp [ouS]
  generalize paS l = pa at *
  generalize ouS l = ou at *
  have hpn : pa.length = parts.length := by omega
  refine ⟨hpn, ?_, ?_, ?_⟩
  · intro p hp
    obtain ⟨i, hi, he⟩ := List.getElem_of_mem (hperm.mem_iff.2 (List.mem_range.2 hp))
    have hfi : fin.getD i 0 = p := by rw [gD hi, he]
    refine cntR_one.2 ⟨i, by omega, decide_eq_true (by rw [hpa i (by omega), hfi]), fun k hk hpk => ?_⟩
    have h1 := of_decide_eq_true hpk
    rw [hpa k (by omega)] at h1
    have h2 : fin.getD k 0 = p := by omega
    rcases Nat.lt_trichotomy k i with h | h | h
    · exact absurd (h2.trans hfi.symm) (hinj k i h (by omega))
    · exact h
    · exact absurd (hfi.trans h2.symm) (hinj i k h (by omega))
  · intro h0 v hv
    have hlt : lastOf parts fin v < parts.length := by have := lastTo_le (parts := parts) (fin := fin) (v := v) fin.length; unfold lastOf; omega
    refine cntR_one.2 ⟨lastOf parts fin v, by omega, decide_eq_true (by rw [hou _ hlt]; exact List.mem_filter.2 ⟨(mem_setOf out).2 hv, decide_eq_true rfl⟩), fun k hk hvk => ?_⟩
    have h1 := of_decide_eq_true hvk
    rw [hou k (by omega)] at h1
    exact (of_decide_eq_true (List.mem_filter.1 h1).2).symm
  · intro i hi v hv
    rw [hou i (by omega)] at hv
    obtain ⟨h1, h2⟩ := List.mem_filter.1 hv
    have h2 := of_decide_eq_true h2
    refine ⟨(mem_setOf out).1 h1, fun k hk hkl => ?_⟩
    rw [hpa k (by omega), Int.toNat_natCast]
    exact (lastTo_spec fin.length).2 k (by unfold lastOf at h2; omega) (by omega)

theorem law42_SchedEarly_ok {parts : List (List Int)} {out : List Int} {Q : Bool → Prop} (h : Q true) : law42_SchedEarly parts out Q := law42_SchedEarly_w (by
  unfold law42_SchedEarly_v
  refine law42_few_ok ⟨fun _ => law42_lives_ok h, fun c => ?_⟩
  obtain ⟨hn, hp, ho, _, _⟩ := few_bounds (by simpa using c)
  refine sched_Plan_ok hn hp ho ?_
  have hperm := finOf_perm parts out
  generalize finOf parts out = fin at hperm
  have hxl := sch_len (parts := parts) (out := out) (fin := fin)
  have hpt := @sch_part parts out fin
  have hot := @sch_out parts out fin
  generalize schSteps parts (setOf out) fin parts.length = x4 at hxl hpt hot
  have hR := early_right hperm hxl hpt hot
  have hfl : fin.length = parts.length := by rw [hperm.length_eq]; simp
  have hfs : ∀ j, j < parts.length → fin.getD j 0 < parts.length := fun j hj => by
    rw [gD (by omega)]; exact List.mem_range.1 (hperm.mem_iff.1 (List.getElem_mem (by omega)))
  have hptl : ∀ i, (pt parts i).length ≤ 10 := fun i => by
    unfold pt
    cases hh : parts[i]? with
    | none => simp
    | some p => exact hp p (List.mem_of_getElem? hh)
  have hgl : (setOf out).length ≤ 12 := Nat.le_trans (length_setOf out) ho
  have hol : ∀ i, (outOf parts (setOf out) fin i).length ≤ 12 := fun i => Nat.le_trans (List.length_filter_le _ _) hgl
  have hob : ∀ x ∈ x4, x.Out.length ≤ 12 := fun x hx => by
    obtain ⟨i, hi, rfl⟩ := List.getElem_of_mem hx
    rw [hot hi]; exact hol i
  refine sched_Right_ok hn hp ho (by omega) hob fun b hb => ?_
  obtain rfl := hb.2 hR
  refine ⟨fun e => by simp at e, fun _ _ _ => ⟨fun e => absurd (by omega) e, fun _ _ => ?_⟩⟩
  refine ⟨fun j all => (all.map (·.1)).Nodup ∧ ∀ v, v ∈ all.map (·.1) ↔ ∃ i, i < j ∧ v ∈ pt parts (fin.getD i 0), ⟨by simp, fun v => by simp⟩, ?_, ?_⟩
  · rintro j hj all ⟨ha1, ha2⟩
    have hjp := hfs j (by omega)
    have hpj := hpt hj
    have hq : (x4[j].Part).toNat < parts.length := by rw [hpj, Int.toNat_natCast]; exact hjp
    refine ⟨hj, fun c => by omega, fun _ _ => ⟨fun c => by omega, fun _ => ⟨by omega, hq, ?_⟩⟩⟩
    have hlp : parts[(x4[j].Part).toNat]'hq = pt parts (fin.getD j 0) := by simp only [hpj, Int.toNat_natCast, pt_get hjp]
    have hlo := hot hj
    generalize parts[(x4[j].Part).toNat]'hq = lp at hlp ⊢
    generalize x4[j].Out = lo at hlo ⊢
    subst hlp hlo
    intro _
    refine ⟨fun i all' has => (all'.map (·.1)).Nodup ∧ (∀ v, v ∈ all'.map (·.1) ↔ (∃ i, i < j ∧ v ∈ pt parts (fin.getD i 0)) ∨ v ∈ (pt parts (fin.getD j 0)).take i) ∧ ∀ v ∈ (pt parts (fin.getD j 0)).take i, mget has v = some true, ⟨ha1, fun v => by simpa using ha2 v, fun v hv => by simp at hv⟩, ?_, ?_⟩
    · rintro i hi all' has ⟨h1, h2, h3⟩
      refine ⟨hi, fun _ => ⟨?_, fun v => ?_, fun v hv => ?_⟩⟩
      · rw [keys_mset]
        split
        · exact h1
        · rename_i hc
          exact List.nodup_append.2 ⟨h1, by simp, fun a ha b hb => by
            have : b = (pt parts (fin.getD j 0))[i] := by simpa using hb
            subst this; exact fun e => hc (e ▸ ha)⟩
      · rw [keys_mset, mem_takeS hi]
        split
        · rename_i hc
          rw [h2]
          constructor
          · exact fun hh => hh.elim Or.inl (fun x => Or.inr (Or.inl x))
          · rintro (hh | hh | hh)
            · exact Or.inl hh
            · exact Or.inr hh
            · rw [hh]; exact (h2 _).1 hc
        · rw [List.mem_append, List.mem_singleton, h2, or_assoc]
      · rw [mget_mset]
        split
        · rfl
        · rename_i hc
          exact h3 v (((mem_takeS hi).1 hv).elim id (fun e => absurd e hc))
    · rintro all' has ⟨h1, h2, h3⟩
      rw [List.take_length] at h3
      simp only [List.take_length] at h2
      intro _
      have hgi := inc_outOf (parts := parts) (fin := fin) (i := j) (inc_setOf out)
      have hoj := hol j
      refine ⟨fun _ => True, trivial, ?_, fun _ => ⟨h1, fun v => ?_⟩⟩
      · intro b hb _
        refine ⟨hb, fun _ => ⟨fun c => ⟨fun e => ?_, fun _ => ⟨fun c2 => ⟨by unfold InR; omega, by omega, by omega, fun _ => ⟨fun c3 => ?_, fun _ => trivial⟩⟩, fun _ => trivial⟩⟩, fun c => ⟨fun c2 => ⟨by unfold InR; omega, by omega, by omega, fun _ => ⟨fun c3 => ?_, fun _ => trivial⟩⟩, fun _ => trivial⟩⟩⟩
        · have hm := List.getElem_mem hb
          have hla := of_decide_eq_true (List.mem_filter.1 hm).2
          rcases (lastTo_spec (parts := parts) (fin := fin) (v := (outOf parts (setOf out) fin j)[b]) fin.length).1 with hh | hh
          · have h4 := hh.1
            unfold lastOf at hla
            rw [hla] at h4
            rw [h3 _ h4] at e; simp at e
          · unfold lastOf at hla; omega
        · have := inc_get hgi (a := Int.toNat ((b : Int) - 1)) hb (by omega); omega
        · have := inc_get hgi (a := Int.toNat ((b : Int) - 1)) hb (by omega); omega
      · rw [h2]
        constructor
        · rintro (⟨i, hi, hv⟩ | hv)
          · exact ⟨i, by omega, hv⟩
          · exact ⟨j, by omega, hv⟩
        · rintro ⟨i, hi, hv⟩
          rcases Nat.lt_or_ge i j with h5 | h5
          · exact Or.inl ⟨i, h5, hv⟩
          · have : i = j := by omega
            subst this; exact Or.inr hv
  · rintro all ⟨ha1, ha2⟩ _
    refine ⟨fun i m => (m.map (·.1)).Nodup ∧ ∀ v, v ∈ m.map (·.1) ↔ v ∈ all.map (·.1) ∧ v ∉ out.take i, ⟨ha1, fun v => by simp⟩, ?_, ?_⟩
    · rintro i hi m ⟨h1, h2⟩
      refine ⟨hi, fun _ => ?_⟩
      dsimp only
      rw [keys_mdel]
      refine ⟨h1.erase _, fun v => ?_⟩
      rw [h1.mem_erase_iff, h2, mem_takeS hi]
      constructor
      · rintro ⟨h3, h4, h5⟩; exact ⟨h4, fun hh => hh.elim h5 h3⟩
      · rintro ⟨h3, h4⟩; exact ⟨fun e => h4 (Or.inr e), h3, fun hh => h4 (Or.inl hh)⟩
    · rintro m ⟨hm1, hm2⟩
      rw [List.take_length] at hm2
      refine sched_Live_ok hn hp (by omega) hob (sched_Widest_ok hn hp (by omega) hob ?_)
      have hpl : (paS x4).length = x4.length := by simp [paS]
      have hul : (ouS x4).length = x4.length := by simp [ouS]
      have hll : (liveNs parts (paS x4) (ouS x4) x4.length).length = x4.length := by simp [liveNs]
      have hlg : ∀ {i : Nat} (hi : i < (liveNs parts (paS x4) (ouS x4) x4.length).length), (liveNs parts (paS x4) (ouS x4) x4.length)[i] = (liveL parts (paS x4) (ouS x4) (i + 1)).length := fun hi => by simp [liveNs]
      intro _ _ _
      refine ⟨fun e => by omega, fun _ _ => ⟨fun _ => True, trivial, fun i hi _ => ⟨hi, fun _ => ⟨fun e => ?_, fun _ => trivial⟩⟩, fun _ _ => ⟨fun _ => law42_lives_ok h, fun e _ => ?_⟩⟩⟩
      · rw [hlg hi] at e
        have h1 := live_wide (parts := parts) (pa := paS x4) (ou := ouS x4) (i := i) (by omega) (by omega)
        have h2 := widest_ge (parts := parts) (pa := paS x4) (ou := ouS x4) (n := x4.length) (i := i) (by omega)
        omega
      · have hkl : m.length = (liveL parts (paS x4) (ouS x4) x4.length).length := by
          have hpart : ∀ v, v ∈ was parts (paS x4) x4.length ↔ v ∈ all.map (·.1) := fun v => by
            rw [ha2]; unfold was
            rw [List.mem_flatten]
            constructor
            · rintro ⟨s, hs, hv⟩
              obtain ⟨p, hp, rfl⟩ := List.mem_map.1 hs
              obtain ⟨i, hi, rfl⟩ := List.getElem_of_mem (List.mem_of_mem_take hp)
              have hi' : i < x4.length := by omega
              have : (paS x4)[i] = (fin.getD i 0 : Nat) := by rw [← hpt hi']; simp [paS]
              rw [this, mem_setOf] at hv
              have hf := hfs i (by omega)
              unfold partOf at hv
              rw [if_pos (by omega), Int.toNat_natCast] at hv
              exact ⟨i, hi', hv⟩
            · rintro ⟨i, hi, hv⟩
              have hf := hfs i (by omega)
              have hi' : i < (paS x4).length := by omega
              have : (paS x4)[i] = (fin.getD i 0 : Nat) := by rw [← hpt hi]; simp [paS]
              refine ⟨setOf (partOf parts (paS x4)[i]), List.mem_map.2 ⟨_, ?_, rfl⟩, ?_⟩
              · rw [List.take_of_length_le (by omega)]; exact List.getElem_mem hi'
              · rw [this, mem_setOf]; unfold partOf; rw [if_pos (by omega), Int.toNat_natCast]; exact hv
          have hgo : ∀ v, goneP (ouS x4) x4.length v = true ↔ v ∈ out := fun v => by
            unfold goneP
            rw [List.take_of_length_le (by omega), List.any_eq_true]
            constructor
            · rintro ⟨o, ho, hv⟩
              obtain ⟨i, hi, rfl⟩ := List.getElem_of_mem ho
              exact (hR.last i (by omega) v (by rw [gDl hi]; exact of_decide_eq_true hv)).1
            · intro hv
              obtain ⟨i, hi, hvi, _⟩ := cntR_one.1 (hR.outs (by omega) v hv)
              have hi' : i < (ouS x4).length := by omega
              exact ⟨(ouS x4)[i], List.getElem_mem hi', by unfold oAt at hvi; rw [gDl hi'] at hvi; exact hvi⟩
          have hk : (m.map (·.1)).length = m.length := by simp
          have hmem : ∀ v, v ∈ liveL parts (paS x4) (ouS x4) x4.length ↔ v ∈ m.map (·.1) := fun v => by
            rw [mem_live, hpart, hm2, ← hgo]; simp
          have h1 := sub_le hm1 (fun v hv => (hmem v).2 hv)
          have h2 := sub_le live_nodup (fun v hv => (hmem v).1 hv)
          omega
        have hwl : (liveL parts (paS x4) (ouS x4) x4.length).length ≤ 1000000 := by
          have h1 := List.length_filter_le (fun v => !(goneP (ouS x4) x4.length v)) (setOf (was parts (paS x4) x4.length))
          have h2 := length_setOf (was parts (paS x4) x4.length)
          have h3 := was_len hp (pa := paS x4) (m := x4.length) (by omega)
          unfold liveL; omega
        have hnz : 0 < x4.length := by omega
        refine ⟨by unfold InR; omega, by omega, by omega, fun _ => ⟨by unfold InR; omega, fun _ => law42_lives_ok h, fun e => absurd ?_ e⟩⟩
        rw [hlg, hkl, show Int.toNat (((liveNs parts (paS x4) (ouS x4) x4.length).length : Int) - 1) + 1 = x4.length by omega])
theorem law42_SchedEarly_ret {I : Reg} {w : World} {T : Own} {v0 v1 : Value} {parts : List (List Int)} {out : List Int} (s0 : St I w T) (r0 : rep I w v0 parts) (r1 : rep I w v1 out) :
    Ret Try.prog 3 [v0, v1] I w fun r I' w' => St I' w' T ∧ r = .bool true :=
  (Wp.c0 (law42_SchedEarly_ok (Q := fun b => b = true) rfl) ⟨_, _, rfl, r0, _, _, rfl, r1, rfl, rfl⟩ s0).mono fun r I' w' _ ⟨A', b, h1, ⟨h2, h3⟩, h4⟩ => ⟨by subst h2; exact h1, by subst h4; exact h3⟩
end Go.Proofs.Ytinfniggaldheab
