/-
  The walks of the laws VsetOf, VsetUnions, VsetTwo, VsetParts: each returns true.
-/
import Derived.Test.Ytinfniggaldheaah
import Derived.Test.Ytinfniggaldheaap
import Derived.Test.YtinfniggaldheaaChecked
import Derived.Test.Ytinfniggaldheaaw
namespace Go.Proofs.Ytinfniggaldheaa.V
open Go Go.X Go.Vs
theorem cc9 : canCall Try.prog 9 = true := by kernel_rfl
theorem sl22 : slB Try.prog 22 3 1 8 = true := by kernel_rfl
theorem cc10 : canCall Try.prog 10 = true := by kernel_rfl
theorem cc12 : canCall Try.prog 12 = true := by kernel_rfl
theorem cc11 : canCall Try.prog 11 = true := by kernel_rfl
theorem cc13 : canCall Try.prog 13 = true := by kernel_rfl
theorem cc14 : canCall Try.prog 14 = true := by kernel_rfl
theorem cc15 : canCall Try.prog 15 = true := by kernel_rfl
theorem cc16 : canCall Try.prog 16 = true := by kernel_rfl
theorem cc17 : canCall Try.prog 17 = true := by kernel_rfl
theorem sl29 : slB Try.prog 29 22 1 24 = true := by kernel_rfl
theorem ty22 : tyB Try.prog 22 false 1 = true := by kernel_rfl
theorem cc18 : canCall Try.prog 18 = true := by kernel_rfl
theorem cc19 : canCall Try.prog 19 = true := by kernel_rfl
theorem cc20 : canCall Try.prog 20 = true := by kernel_rfl
theorem cc21 : canCall Try.prog 21 = true := by kernel_rfl
theorem cc22 : canCall Try.prog 22 = true := by kernel_rfl
theorem cc23 : canCall Try.prog 23 = true := by kernel_rfl
theorem cc24 : canCall Try.prog 24 = true := by kernel_rfl
theorem cc25 : canCall Try.prog 25 = true := by kernel_rfl
theorem cc26 : canCall Try.prog 26 = true := by kernel_rfl
theorem ty3 : tyB Try.prog 3 false 1 = true := by kernel_rfl
theorem C_voussoirlaw03_VsetOf {I : Reg} {w : World} {T : Own} {l : List (Int)} {u0 : Value} {v : Int} (s0 : St I w T) (r_l : rep I w u0 l) :
    Ret Try.prog 3 [u0, .int .i64 v] I w fun r I' w' => St I' w' T ∧ r = .bool true := by
  have l_l := rep_len r_l
  refine ret_of_wt Try.func3 rfl Try.ntmps3 rfl ?_
  refine wt_seq (wt_region (o_assign (wl_nil (wt_seq (wt_region (o_mov u0 rfl (o_ret cc9 (C_voussoirlaw03_few s0 r_l) rfl ?_)))))))
  rintro v1 I1 w1 e1 ⟨s1, r1⟩
  have l1 := rep_len r1
  refine o_asg v1 rfl (wl_nil (wt_seq (wt_region (o_buildO (xs := ([] : List (Int))) (vs := []) sl22 s1 rfl trivial rfl rfl (fun v2 A2 w2 e2 s2 o2 => ?_)))))
  refine o_mov v1 rfl (o_append sl22 s2 o2 (e2.rep r1) rfl rfl (by simp; omega) (by simp; omega) (fun v3 A3 w3 e3 s3 o3 => ?_))
  have l3 := o3.bd
  refine o_asg v3 rfl (wl_nil (wt_seq (wt_region (o_mov v1 rfl (o_ret cc10 (C_vset_Of s3 (e3.rep (e2.rep r1)) (by rw [List.length_take]; omega)) rfl ?_)))))
  rintro v4 I4 w4 e4 ⟨s4, r4⟩
  have l4 := rep_len r4
  refine o_asg v4 rfl (wl_nil (wt_seq (wt_region (o_mov v4 rfl (o_mov v1 rfl (o_ret cc12 (C_voussoirref03_Of s4 (e4.rep (e3.rep (e2.rep r1))) (by rw [List.length_take]; omega)) rfl ?_))))))
  rintro v5 I5 w5 e5 ⟨s5, r5⟩
  have l5 := rep_len r5
  refine o_ret cc11 (C_voussoirref03_Same s5 (e5.rep r4) r5) rfl ?_
  rintro v6 I6 w6 e6 ⟨s6, rfl⟩
  refine o_mov (.bool ((setOf (l.take 60)) == (refOf (l.take 60)))) rfl (wl_caseb (d := 18) rfl rfl (fun _ => ?_) (fun h => nomatch h.symm.trans (show ((setOf (l.take 60)) == (refOf (l.take 60))) = true from by first | exact inc_setOf _ | (simp [setOf_eq]; done) | rfl)))
  refine wl_yes rfl (o_mov v1 rfl (wl_yes rfl (o_mov v3 rfl (wl_yes rfl (?_)))))
  obtain ⟨e7, s7, r7⟩ := OwnSl.lend (((o3.mono e4).mono e5).mono e6) s6
  refine o_ret cc11 (C_voussoirref03_Same s7 (e7.rep (e6.rep (e5.rep (e4.rep (e3.rep (e2.rep r1)))))) r7) rfl ?_
  rintro v8 I8 w8 e8 ⟨s8, rfl⟩
  obtain ⟨I9, e9, s9⟩ := St.back s6 e8 s8
  refine o_pickt (.bool ((l.take 60) == (([] : List (Int)) ++ (l.take 60)))) rfl rfl (o_mov (.bool ((l.take 60) == (([] : List (Int)) ++ (l.take 60)))) rfl (wl_caseb (d := 23) rfl rfl (fun _ => ?_) (fun h => nomatch h.symm.trans (show ((l.take 60) == (([] : List (Int)) ++ (l.take 60))) = true from by first | exact inc_setOf _ | (simp [setOf_eq]; done) | rfl))))
  refine wl_yes rfl (o_mov v1 rfl (wl_yes rfl (o_ret cc13 (C_vset_Right s9 (e9.rep (e6.rep (e5.rep (e4.rep (e3.rep (e2.rep r1))))))) rfl ?_)))
  rintro v10 I10 w10 e10 ⟨s10, rfl⟩
  refine wl_yes rfl (o_mov v1 rfl (wl_yes rfl (o_ret cc14 (C_voussoirref03_Right s10 (e10.rep (e9.rep (e6.rep (e5.rep (e4.rep (e3.rep (e2.rep r1)))))))) rfl ?_)))
  rintro v11 I11 w11 e11 ⟨s11, rfl⟩
  refine wl_yes rfl (o_eqb rfl rfl Try.underlying4 (o_pickt (.bool ((inc (l.take 60)) == (inc (l.take 60)))) rfl rfl (o_mov (.bool ((inc (l.take 60)) == (inc (l.take 60)))) rfl (wl_caseb (d := 30) rfl rfl (fun _ => ?_) (fun h => nomatch h.symm.trans (show ((inc (l.take 60)) == (inc (l.take 60))) = true from by first | exact inc_setOf _ | (simp [setOf_eq]; done) | rfl))))))
  refine wl_yes rfl (o_mov v4 rfl (wl_yes rfl (o_ret cc13 (C_vset_Right s11 (e11.rep (e10.rep (e9.rep (e6.rep (e5.rep r4)))))) rfl ?_)))
  rintro v12 I12 w12 e12 ⟨s12, rfl⟩
  refine o_pickt (.bool (inc (setOf (l.take 60)))) rfl rfl (o_mov (.bool (inc (setOf (l.take 60)))) rfl (wl_caseb (d := 34) rfl rfl (fun _ => ?_) (fun h => nomatch h.symm.trans (show (inc (setOf (l.take 60))) = true from by first | exact inc_setOf _ | (simp [setOf_eq]; done) | rfl))))
  refine wl_yes rfl (o_mov v1 rfl (wl_yes rfl (o_mov (.int .i64 v) rfl (wl_yes rfl (o_ret cc15 (C_vset_Has s12 (e12.rep (e11.rep (e10.rep (e9.rep (e6.rep (e5.rep (e4.rep (e3.rep (e2.rep r1)))))))))) rfl ?_)))))
  rintro v13 I13 w13 e13 ⟨s13, rfl⟩
  refine wl_yes rfl (o_mov v1 rfl (wl_yes rfl (o_mov (.int .i64 v) rfl (wl_yes rfl (o_ret cc16 (C_voussoirref03_Has s13 (e13.rep (e12.rep (e11.rep (e10.rep (e9.rep (e6.rep (e5.rep (e4.rep (e3.rep (e2.rep r1))))))))))) rfl ?_)))))
  rintro v14 I14 w14 e14 ⟨s14, rfl⟩
  refine wl_yes rfl (o_eqb rfl rfl Try.underlying4 (o_pickt (.bool ((decide (v ∈ (l.take 60))) == (decide (v ∈ (l.take 60))))) rfl rfl (o_mov (.bool ((decide (v ∈ (l.take 60))) == (decide (v ∈ (l.take 60))))) rfl (wl_caseb (d := 43) rfl rfl (fun _ => ?_) (fun h => nomatch h.symm.trans (show ((decide (v ∈ (l.take 60))) == (decide (v ∈ (l.take 60)))) = true from by first | exact inc_setOf _ | (simp [setOf_eq]; done) | rfl))))))
  refine wl_yes rfl (o_ret cc17 (C_voussoirlaw03_lives s14) rfl ?_)
  rintro v15 I15 w15 e15 ⟨s15, rfl⟩
  refine o_pickt (.bool true) rfl rfl (o_asg (.bool true) rfl (wl_nil (?_)))
  exact ret_one Try.func3 rfl rfl ((((((((((((e1.trans e2).trans e3).trans e4).trans e5).trans e6).trans e9).trans e10).trans e11).trans e12).trans e13).trans e14).trans e15) ⟨s15.drop, congrArg Value.bool (by rfl)⟩

theorem C_voussoirlaw03_VsetUnions {I : Reg} {w : World} {T : Own} {l : List (List (Int))} {u0 : Value} (s0 : St I w T) (r_l : rep I w u0 l) :
    Ret Try.prog 4 [u0] I w fun r I' w' => St I' w' T ∧ r = .bool true := by
  have l_l := rep_len r_l
  refine ret_of_wt Try.func4 rfl Try.ntmps4 rfl ?_
  refine wt_seq (wt_region (o_assign (wl_nil (wt_seq (wt_region (o_buildO (xs := ([] : List (List (Int)))) (vs := []) sl29 s0 rfl trivial rfl rfl (fun v1 A1 w1 e1 s1 o1 => ?_)))))))
  refine o_asg v1 rfl (wl_nil (wt_seq (wt_seq (wt_region (o_assign (wl_nil (wt_block (wt_loop (fun n f w2 => ∃ (g : Fr) (I2 : Reg) (i : Nat) (all : List (List Int)) (A3 : Own) (v3 : Value), f = ov [(0, u0), (3, v3), (4, .int .i64 (i : Int))] g ∧ n = (l.length - i) ∧ Ext I w1 I2 w2 ∧ St I2 w2 (A3 ++ T) ∧ OwnSl I2 w2 22 A3 v3 all ∧ (i ≤ l.length) ∧ (i ≤ 12) ∧ (all.length ≤ i) ∧ (∀ x ∈ all, x.length ≤ 60)) _ ⟨_, _, 0, [], A1, v1, ov_self _ _ ⟨rfl, rfl, rfl, trivial⟩, rfl, Ext.refl _ _, s1, (OwnSl.cast (by simp) o1), by first | omega | simp, by first | omega | simp, by first | omega | simp, by simp⟩ ?_))))))))
  rintro n f w2 ⟨g, I2, i, all, A3, v3, rfl, rfl, e2, s2, o3, h2_0, h2_1, h2_2, h2_3⟩ ih2
  have l3 := o3.bd
  refine wt_seq (wt_seq (wt_region (o_mov (.int .i64 (i : Int)) rfl (o_mov u0 rfl (o_len' (e2.rep (e1.rep r_l)) rfl sl29 rfl (o_lss rfl rfl (fun c37 => ?_) (fun c37 => ?_)))))))
  · refine o_mov (.bool true) rfl (wl_yes rfl (o_mov (.int .i64 (i : Int)) rfl (wl_yes rfl (o_lss rfl rfl (fun c37a => ?_) (fun c37a => ?_)))))
    · refine o_pickt (.bool true) rfl rfl (wl_nil (wt_true rfl (wt_skip (wt_seq (wt_block (wt_region (o_mov v3 rfl (o_mov u0 rfl (o_mov (.int .i64 (i : Int)) rfl (o_index (j := i) sl29 (e2.rep (e1.rep r_l)) rfl rfl rfl (by omega) (fun a4 v4 p4 b4 r4 => ?_)))))))))))
      refine o_load ty22 p4 r4 rfl (?_)
      have l4 := rep_len r4
      refine o_ret cc9 (C_voussoirlaw03_few s2 r4) rfl ?_
      rintro v5 I5 w5 e5 ⟨s5, r5⟩
      have l5 := rep_len r5
      refine o_buildI (xs := ([((l[i]).take 60)] : List (List (Int)))) (vs := [v5]) sl29 s5 rfl ⟨r5, trivial⟩ rfl rfl (fun v6 I6 w6 e6 s6 r6 => ?_)
      refine o_append sl29 s6 ((o3.mono e5).mono e6) r6 rfl rfl (by simp; omega) (by simp; omega) (fun v7 A7 w7 e7 s7 o7 => ?_)
      have l7 := o7.bd
      refine o_asg v7 rfl (wl_nil (wt_inBlock (wt_region (o_mov (.int .i64 (i : Int)) rfl (o_addi rfl rfl (by omega) (o_asg (.int .i64 ((i : Int) + 1)) rfl (wl_nil (?_))))))))
      exact ih2.out _ _ _ (by omega) ⟨_, _, i + 1, (all ++ ([((l[i]).take 60)] : List (List (Int)))), A7, v7, ov_self _ _ ⟨rfl, rfl, int_eq (a := ((i : Int) + 1)) (by omega), trivial⟩, rfl, (((e2.trans e5).trans e6).trans e7), s7, (OwnSl.cast (by clear ih2; rfl) o7), by clear ih2; first | omega | simp_all, by clear ih2; first | omega | simp_all, by clear ih2; simp; omega, by clear ih2; intro x hx; rcases List.mem_append.1 hx with hx | hx; exact h2_3 x hx; simp at hx; subst hx; simp; omega⟩
    · refine o_pickt (.bool false) rfl rfl (wl_nil (wt_false rfl (wt_exit rfl (wt_seq (wt_region (o_mov v3 rfl (?_)))))))
      obtain ⟨I8, e8, s8, r8⟩ := OwnSl.freeze o3 s2
      refine o_ret cc18 (C_vset_Union s8 r8 (by first | (simp; done) | (have hb := flat_le 60 all h2_3; have : all.length * 60 ≤ 12 * 60 := Nat.mul_le_mul_right 60 (by omega); omega))) rfl ?_
      rintro v9 I9 w9 e9 ⟨s9, r9⟩
      have l9 := rep_len r9
      refine o_mov v3 rfl (o_ret cc19 (C_voussoirref03_Union s9 (e9.rep r8) (by have hb := flat_le 60 all h2_3; have : all.length * 60 ≤ 12 * 60 := Nat.mul_le_mul_right 60 (by omega); omega)) rfl ?_)
      rintro v10 I10 w10 e10 ⟨s10, r10⟩
      have l10 := rep_len r10
      refine o_ret cc11 (C_voussoirref03_Same s10 (e10.rep r9) r10) rfl ?_
      rintro v11 I11 w11 e11 ⟨s11, rfl⟩
      refine o_mov (.bool ((setOf all.flatten) == (refOf all.flatten))) rfl (wl_caseb (d := 29) rfl rfl (fun _ => ?_) (fun h => nomatch h.symm.trans (show ((setOf all.flatten) == (refOf all.flatten)) = true from by first | exact inc_setOf _ | (simp [setOf_eq]; done) | rfl)))
      refine wl_yes rfl (o_ret cc18 (C_vset_Union s11 (rep_nil (by decide)) (by first | (simp; done) | (have hb := flat_le 60 all h2_3; have : all.length * 60 ≤ 12 * 60 := Nat.mul_le_mul_right 60 (by omega); omega))) rfl ?_)
      rintro v12 I12 w12 e12 ⟨s12, r12⟩
      have l12 := rep_len r12
      refine wl_yes rfl (o_len' r12 rfl sl22 rfl (wl_yes rfl (o_eqlv rfl rfl (o_pickt (.bool (decide (((setOf [].flatten).length : Int) = 0))) rfl rfl (o_mov (.bool (decide (((setOf [].flatten).length : Int) = 0))) rfl (wl_casep (d := 34) rfl rfl (fun _ => ?_) (fun h => absurd (show (((setOf [].flatten).length : Int) = 0) from by first | exact inc_setOf _ | (simp [setOf_eq]; done) | rfl) h)))))))
      refine wl_yes rfl (o_ret cc10 (C_vset_Of s12 (rep_nil (by decide)) (by simp)) rfl ?_)
      rintro v13 I13 w13 e13 ⟨s13, r13⟩
      have l13 := rep_len r13
      refine wl_yes rfl (o_len' r13 rfl sl22 rfl (wl_yes rfl (o_eqlv rfl rfl (o_pickt (.bool (decide (((setOf []).length : Int) = 0))) rfl rfl (o_mov (.bool (decide (((setOf []).length : Int) = 0))) rfl (wl_casep (d := 39) rfl rfl (fun _ => ?_) (fun h => absurd (show (((setOf []).length : Int) = 0) from by first | exact inc_setOf _ | (simp [setOf_eq]; done) | rfl) h)))))))
      refine wl_yes rfl (o_ret cc17 (C_voussoirlaw03_lives s13) rfl ?_)
      rintro v14 I14 w14 e14 ⟨s14, rfl⟩
      refine o_pickt (.bool true) rfl rfl (o_asg (.bool true) rfl (wl_nil (?_)))
      exact ret_one Try.func4 rfl rfl ((((((((e1.trans e2).trans e8).trans e9).trans e10).trans e11).trans e12).trans e13).trans e14) ⟨s14, congrArg Value.bool (by rfl)⟩
  · refine o_mov (.bool false) rfl (wl_no rfl (wl_no rfl (o_pick0 rfl (wl_nil (wt_false rfl (wt_exit rfl (wt_seq (wt_region (o_mov v3 rfl (?_))))))))))
    obtain ⟨I15, e15, s15, r15⟩ := OwnSl.freeze o3 s2
    refine o_ret cc18 (C_vset_Union s15 r15 (by first | (simp; done) | (have hb := flat_le 60 all h2_3; have : all.length * 60 ≤ 12 * 60 := Nat.mul_le_mul_right 60 (by omega); omega))) rfl ?_
    rintro v16 I16 w16 e16 ⟨s16, r16⟩
    have l16 := rep_len r16
    refine o_mov v3 rfl (o_ret cc19 (C_voussoirref03_Union s16 (e16.rep r15) (by have hb := flat_le 60 all h2_3; have : all.length * 60 ≤ 12 * 60 := Nat.mul_le_mul_right 60 (by omega); omega)) rfl ?_)
    rintro v17 I17 w17 e17 ⟨s17, r17⟩
    have l17 := rep_len r17
    refine o_ret cc11 (C_voussoirref03_Same s17 (e17.rep r16) r17) rfl ?_
    rintro v18 I18 w18 e18 ⟨s18, rfl⟩
    refine o_mov (.bool ((setOf all.flatten) == (refOf all.flatten))) rfl (wl_caseb (d := 29) rfl rfl (fun _ => ?_) (fun h => nomatch h.symm.trans (show ((setOf all.flatten) == (refOf all.flatten)) = true from by first | exact inc_setOf _ | (simp [setOf_eq]; done) | rfl)))
    refine wl_yes rfl (o_ret cc18 (C_vset_Union s18 (rep_nil (by decide)) (by first | (simp; done) | (have hb := flat_le 60 all h2_3; have : all.length * 60 ≤ 12 * 60 := Nat.mul_le_mul_right 60 (by omega); omega))) rfl ?_)
    rintro v19 I19 w19 e19 ⟨s19, r19⟩
    have l19 := rep_len r19
    refine wl_yes rfl (o_len' r19 rfl sl22 rfl (wl_yes rfl (o_eqlv rfl rfl (o_pickt (.bool (decide (((setOf [].flatten).length : Int) = 0))) rfl rfl (o_mov (.bool (decide (((setOf [].flatten).length : Int) = 0))) rfl (wl_casep (d := 34) rfl rfl (fun _ => ?_) (fun h => absurd (show (((setOf [].flatten).length : Int) = 0) from by first | exact inc_setOf _ | (simp [setOf_eq]; done) | rfl) h)))))))
    refine wl_yes rfl (o_ret cc10 (C_vset_Of s19 (rep_nil (by decide)) (by simp)) rfl ?_)
    rintro v20 I20 w20 e20 ⟨s20, r20⟩
    have l20 := rep_len r20
    refine wl_yes rfl (o_len' r20 rfl sl22 rfl (wl_yes rfl (o_eqlv rfl rfl (o_pickt (.bool (decide (((setOf []).length : Int) = 0))) rfl rfl (o_mov (.bool (decide (((setOf []).length : Int) = 0))) rfl (wl_casep (d := 39) rfl rfl (fun _ => ?_) (fun h => absurd (show (((setOf []).length : Int) = 0) from by first | exact inc_setOf _ | (simp [setOf_eq]; done) | rfl) h)))))))
    refine wl_yes rfl (o_ret cc17 (C_voussoirlaw03_lives s20) rfl ?_)
    rintro v21 I21 w21 e21 ⟨s21, rfl⟩
    refine o_pickt (.bool true) rfl rfl (o_asg (.bool true) rfl (wl_nil (?_)))
    exact ret_one Try.func4 rfl rfl ((((((((e1.trans e2).trans e15).trans e16).trans e17).trans e18).trans e19).trans e20).trans e21) ⟨s21, congrArg Value.bool (by rfl)⟩

theorem C_voussoirlaw03_VsetTwo {I : Reg} {w : World} {T : Own} {a : List (Int)} {u0 : Value} {b : List (Int)} {u1 : Value} (s0 : St I w T) (r_a : rep I w u0 a) (r_b : rep I w u1 b) :
    Ret Try.prog 5 [u0, u1] I w fun r I' w' => St I' w' T ∧ r = .bool true := by
  have l_a := rep_len r_a
  have l_b := rep_len r_b
  refine ret_of_wt Try.func5 rfl Try.ntmps5 rfl ?_
  refine wt_seq (wt_region (o_assign (wl_nil (wt_seq (wt_region (o_mov u0 rfl (o_ret cc9 (C_voussoirlaw03_few s0 r_a) rfl ?_)))))))
  rintro v1 I1 w1 e1 ⟨s1, r1⟩
  have l1 := rep_len r1
  refine o_mov u1 rfl (o_ret cc9 (C_voussoirlaw03_few s1 (e1.rep r_b)) rfl ?_)
  rintro v2 I2 w2 e2 ⟨s2, r2⟩
  have l2 := rep_len r2
  refine o_asg v1 rfl (o_asg v2 rfl (wl_nil (wt_seq (wt_seq (wt_region (o_mov v1 rfl (o_mov v2 rfl (o_ret cc20 (C_vset_Meet s2 (e2.rep r1) r2 (by rw [List.length_take]; omega)) rfl ?_))))))))
  rintro v3 I3 w3 e3 ⟨s3, r3⟩
  have l3 := rep_len r3
  refine o_mov v1 rfl (o_mov v2 rfl (o_ret cc21 (C_voussoirref03_Meet s3 (e3.rep (e2.rep r1)) (e3.rep r2) (by rw [List.length_take]; omega)) rfl ?_))
  rintro v4 I4 w4 e4 ⟨s4, r4⟩
  have l4 := rep_len r4
  refine o_ret cc11 (C_voussoirref03_Same s4 (e4.rep r3) r4) rfl ?_
  rintro v5 I5 w5 e5 ⟨s5, rfl⟩
  refine o_not rfl (o_mov (.bool (!((setOf ((a.take 60).filter (fun v => decide (v ∈ (b.take 60))))) == (refOf ((a.take 60).filter (fun v => decide (v ∈ (b.take 60)))))))) rfl (wl_caseb (d := 17) rfl rfl (fun h => nomatch h.symm.trans (show (!((setOf ((a.take 60).filter (fun v => decide (v ∈ (b.take 60))))) == (refOf ((a.take 60).filter (fun v => decide (v ∈ (b.take 60))))))) = false from by simp [setOf_eq])) (fun _ => ?_)))
  refine wl_yes rfl (o_mov v1 rfl (wl_yes rfl (o_mov v2 rfl (wl_yes rfl (o_ret cc22 (C_vset_Less s5 (e5.rep (e4.rep (e3.rep (e2.rep r1)))) (e5.rep (e4.rep (e3.rep r2))) (by rw [List.length_take]; omega)) rfl ?_)))))
  rintro v6 I6 w6 e6 ⟨s6, r6⟩
  have l6 := rep_len r6
  refine wl_yes rfl (o_mov v1 rfl (wl_yes rfl (o_mov v2 rfl (wl_yes rfl (o_ret cc23 (C_voussoirref03_Less s6 (e6.rep (e5.rep (e4.rep (e3.rep (e2.rep r1))))) (e6.rep (e5.rep (e4.rep (e3.rep r2)))) (by rw [List.length_take]; omega)) rfl ?_)))))
  rintro v7 I7 w7 e7 ⟨s7, r7⟩
  have l7 := rep_len r7
  refine wl_yes rfl (o_ret cc11 (C_voussoirref03_Same s7 (e7.rep r6) r7) rfl ?_)
  rintro v8 I8 w8 e8 ⟨s8, rfl⟩
  refine wl_yes rfl (o_not rfl (o_pickf (.bool (!((setOf ((a.take 60).filter (fun v => !(decide (v ∈ (b.take 60)))))) == (refOf ((a.take 60).filter (fun v => !(decide (v ∈ (b.take 60))))))))) rfl rfl (wl_nil (wt_cond rfl (fun h => nomatch h.symm.trans (show (!((setOf ((a.take 60).filter (fun v => !(decide (v ∈ (b.take 60)))))) == (refOf ((a.take 60).filter (fun v => !(decide (v ∈ (b.take 60)))))))) = false from by simp [setOf_eq])) (fun _ => ?_)))))
  refine wt_skip (wt_seq (wt_region (o_mov v1 rfl (o_mov v2 rfl (o_ret cc24 (C_vset_Within s8 (e8.rep (e7.rep (e6.rep (e5.rep (e4.rep (e3.rep (e2.rep r1))))))) (e8.rep (e7.rep (e6.rep (e5.rep (e4.rep (e3.rep r2)))))) (by rw [List.length_take]; omega)) rfl ?_)))))
  rintro v9 I9 w9 e9 ⟨s9, rfl⟩
  refine o_mov v1 rfl (o_mov v2 rfl (o_ret cc25 (C_voussoirref03_Within s9 (e9.rep (e8.rep (e7.rep (e6.rep (e5.rep (e4.rep (e3.rep (e2.rep r1)))))))) (e9.rep (e8.rep (e7.rep (e6.rep (e5.rep (e4.rep (e3.rep r2))))))) (by rw [List.length_take]; omega)) rfl ?_))
  rintro v10 I10 w10 e10 ⟨s10, rfl⟩
  refine o_eqb rfl rfl Try.underlying4 (o_mov (.bool (((a.take 60).all fun v => decide (v ∈ (b.take 60))) == ((a.take 60).all fun v => decide (v ∈ (b.take 60))))) rfl (wl_caseb (d := 34) rfl rfl (fun _ => ?_) (fun h => nomatch h.symm.trans (show (((a.take 60).all fun v => decide (v ∈ (b.take 60))) == ((a.take 60).all fun v => decide (v ∈ (b.take 60)))) = true from by simp))))
  refine wl_yes rfl (o_mov v1 rfl (wl_yes rfl (o_mov v2 rfl (wl_yes rfl (o_ret cc26 (C_vset_Same s10 (e10.rep (e9.rep (e8.rep (e7.rep (e6.rep (e5.rep (e4.rep (e3.rep (e2.rep r1))))))))) (e10.rep (e9.rep (e8.rep (e7.rep (e6.rep (e5.rep (e4.rep (e3.rep r2)))))))) (by rw [List.length_take]; omega) (by rw [List.length_take]; omega)) rfl ?_)))))
  rintro v11 I11 w11 e11 ⟨s11, rfl⟩
  refine wl_yes rfl (o_mov v1 rfl (wl_yes rfl (o_ret cc12 (C_voussoirref03_Of s11 (e11.rep (e10.rep (e9.rep (e8.rep (e7.rep (e6.rep (e5.rep (e4.rep (e3.rep (e2.rep r1)))))))))) (by rw [List.length_take]; omega)) rfl ?_)))
  rintro v12 I12 w12 e12 ⟨s12, r12⟩
  have l12 := rep_len r12
  refine wl_yes rfl (o_mov v2 rfl (wl_yes rfl (o_ret cc12 (C_voussoirref03_Of s12 (e12.rep (e11.rep (e10.rep (e9.rep (e8.rep (e7.rep (e6.rep (e5.rep (e4.rep (e3.rep r2)))))))))) (by rw [List.length_take]; omega)) rfl ?_)))
  rintro v13 I13 w13 e13 ⟨s13, r13⟩
  have l13 := rep_len r13
  refine wl_yes rfl (o_ret cc11 (C_voussoirref03_Same s13 (e13.rep r12) r13) rfl ?_)
  rintro v14 I14 w14 e14 ⟨s14, rfl⟩
  refine wl_yes rfl (o_eqb rfl rfl Try.underlying4 (o_pickt (.bool ((((a.take 60).all fun v => decide (v ∈ (b.take 60))) && ((b.take 60).all fun v => decide (v ∈ (a.take 60)))) == ((refOf (a.take 60)) == (refOf (b.take 60))))) rfl rfl (o_mov (.bool ((((a.take 60).all fun v => decide (v ∈ (b.take 60))) && ((b.take 60).all fun v => decide (v ∈ (a.take 60)))) == ((refOf (a.take 60)) == (refOf (b.take 60))))) rfl (wl_caseb (d := 45) rfl rfl (fun _ => ?_) (fun h => nomatch h.symm.trans (show ((((a.take 60).all fun v => decide (v ∈ (b.take 60))) && ((b.take 60).all fun v => decide (v ∈ (a.take 60)))) == ((refOf (a.take 60)) == (refOf (b.take 60)))) = true from by exact two_same))))))
  refine wl_yes rfl (o_ret cc17 (C_voussoirlaw03_lives s14) rfl ?_)
  rintro v15 I15 w15 e15 ⟨s15, rfl⟩
  refine o_pickt (.bool true) rfl rfl (o_asg (.bool true) rfl (wl_nil (?_)))
  exact ret_one Try.func5 rfl rfl ((((((((((((((e1.trans e2).trans e3).trans e4).trans e5).trans e6).trans e7).trans e8).trans e9).trans e10).trans e11).trans e12).trans e13).trans e14).trans e15) ⟨s15, congrArg Value.bool (by rfl)⟩

theorem C_voussoirlaw03_VsetParts {I : Reg} {w : World} {T : Own} {a : List (Int)} {u0 : Value} {b : List (Int)} {u1 : Value} {c : List (Int)} {u2 : Value} (s0 : St I w T) (r_a : rep I w u0 a) (r_b : rep I w u1 b) (r_c : rep I w u2 c) :
    Ret Try.prog 6 [u0, u1, u2] I w fun r I' w' => St I' w' T ∧ r = .bool true := by
  have l_a := rep_len r_a
  have l_b := rep_len r_b
  have l_c := rep_len r_c
  refine ret_of_wt Try.func6 rfl Try.ntmps6 rfl ?_
  refine wt_seq (wt_region (o_assign (wl_nil (wt_seq (wt_region (o_mov u0 rfl (o_ret cc9 (C_voussoirlaw03_few s0 r_a) rfl ?_)))))))
  rintro v1 I1 w1 e1 ⟨s1, r1⟩
  have l1 := rep_len r1
  refine o_mov u1 rfl (o_ret cc9 (C_voussoirlaw03_few s1 (e1.rep r_b)) rfl ?_)
  rintro v2 I2 w2 e2 ⟨s2, r2⟩
  have l2 := rep_len r2
  refine o_mov u2 rfl (o_ret cc9 (C_voussoirlaw03_few s2 (e2.rep (e1.rep r_c))) rfl ?_)
  rintro v3 I3 w3 e3 ⟨s3, r3⟩
  have l3 := rep_len r3
  refine o_asg v1 rfl (o_asg v2 rfl (o_asg v3 rfl (wl_nil (wt_seq (wt_region (o_mov v1 rfl (o_mov v2 rfl (o_ret cc20 (C_vset_Meet s3 (e3.rep (e2.rep r1)) (e3.rep r2) (by first | exact big (t60 _) | exact big (sf60 _ _) | exact Nat.le_trans (length_setOf _) (flat2 (sf60 _ _) (sf60 _ _)) | exact Nat.le_trans (length_setOf _) (flat3 (t60 _) (t60 _) (t60 _)) | exact Nat.le_trans (length_setOf _) (flat2 (su2 _ _) (t60 _)))) rfl ?_))))))))
  rintro v4 I4 w4 e4 ⟨s4, r4⟩
  have l4 := rep_len r4
  refine o_mov v1 rfl (o_mov v2 rfl (o_ret cc22 (C_vset_Less s4 (e4.rep (e3.rep (e2.rep r1))) (e4.rep (e3.rep r2)) (by first | exact big (t60 _) | exact big (sf60 _ _) | exact Nat.le_trans (length_setOf _) (flat2 (sf60 _ _) (sf60 _ _)) | exact Nat.le_trans (length_setOf _) (flat3 (t60 _) (t60 _) (t60 _)) | exact Nat.le_trans (length_setOf _) (flat2 (su2 _ _) (t60 _)))) rfl ?_))
  rintro v5 I5 w5 e5 ⟨s5, r5⟩
  have l5 := rep_len r5
  refine o_asg v4 rfl (o_asg v5 rfl (wl_nil (wt_seq (wt_seq (wt_region (o_mov v4 rfl (o_mov v5 rfl (o_buildI (xs := ([(setOf ((a.take 60).filter (fun v => decide (v ∈ (b.take 60))))), (setOf ((a.take 60).filter (fun v => !(decide (v ∈ (b.take 60))))))] : List (List (Int)))) (vs := [v4, v5]) sl29 s5 rfl ⟨(e5.rep r4), r5, trivial⟩ rfl rfl (fun v6 I6 w6 e6 s6 r6 => ?_)))))))))
  refine o_ret cc18 (C_vset_Union s6 r6 (by first | exact flat2 (sf60 _ _) (sf60 _ _) | exact flat3 (t60 _) (t60 _) (t60 _) | exact flat4 (t60 _) (t60 _) (t60 _) (t60 _) | exact flat2 (t60 _) (t60 _) | exact flat2 (su2 _ _) (t60 _))) rfl ?_
  rintro v7 I7 w7 e7 ⟨s7, r7⟩
  have l7 := rep_len r7
  refine o_mov v1 rfl (o_ret cc26 (C_vset_Same s7 r7 (e7.rep (e6.rep (e5.rep (e4.rep (e3.rep (e2.rep r1)))))) (by first | exact big (t60 _) | exact big (sf60 _ _) | exact Nat.le_trans (length_setOf _) (flat2 (sf60 _ _) (sf60 _ _)) | exact Nat.le_trans (length_setOf _) (flat3 (t60 _) (t60 _) (t60 _)) | exact Nat.le_trans (length_setOf _) (flat2 (su2 _ _) (t60 _))) (by first | exact big (t60 _) | exact big (sf60 _ _) | exact Nat.le_trans (length_setOf _) (flat2 (sf60 _ _) (sf60 _ _)) | exact Nat.le_trans (length_setOf _) (flat3 (t60 _) (t60 _) (t60 _)) | exact Nat.le_trans (length_setOf _) (flat2 (su2 _ _) (t60 _)))) rfl ?_)
  rintro v8 I8 w8 e8 ⟨s8, rfl⟩
  refine o_not rfl (o_mov (.bool (!(((setOf ([(setOf ((a.take 60).filter (fun v => decide (v ∈ (b.take 60))))), (setOf ((a.take 60).filter (fun v => !(decide (v ∈ (b.take 60))))))] : List (List (Int))).flatten).all fun v => decide (v ∈ (a.take 60))) && ((a.take 60).all fun v => decide (v ∈ (setOf ([(setOf ((a.take 60).filter (fun v => decide (v ∈ (b.take 60))))), (setOf ((a.take 60).filter (fun v => !(decide (v ∈ (b.take 60))))))] : List (List (Int))).flatten)))))) rfl (wl_caseb (d := 30) rfl rfl (fun h => nomatch h.symm.trans (show (!(((setOf ([(setOf ((a.take 60).filter (fun v => decide (v ∈ (b.take 60))))), (setOf ((a.take 60).filter (fun v => !(decide (v ∈ (b.take 60))))))] : List (List (Int))).flatten).all fun v => decide (v ∈ (a.take 60))) && ((a.take 60).all fun v => decide (v ∈ (setOf ([(setOf ((a.take 60).filter (fun v => decide (v ∈ (b.take 60))))), (setOf ((a.take 60).filter (fun v => !(decide (v ∈ (b.take 60))))))] : List (List (Int))).flatten))))) = false from by rw [Bool.not_eq_false']; exact same_all mem_parts)) (fun _ => ?_)))
  refine wl_yes rfl (o_mov v4 rfl (wl_yes rfl (o_mov v5 rfl (wl_yes rfl (o_ret cc20 (C_vset_Meet s8 (e8.rep (e7.rep (e6.rep (e5.rep r4)))) (e8.rep (e7.rep (e6.rep r5))) (by first | exact big (t60 _) | exact big (sf60 _ _) | exact Nat.le_trans (length_setOf _) (flat2 (sf60 _ _) (sf60 _ _)) | exact Nat.le_trans (length_setOf _) (flat3 (t60 _) (t60 _) (t60 _)) | exact Nat.le_trans (length_setOf _) (flat2 (su2 _ _) (t60 _)))) rfl ?_)))))
  rintro v9 I9 w9 e9 ⟨s9, r9⟩
  have l9 := rep_len r9
  refine wl_yes rfl (o_len' r9 rfl sl22 rfl (wl_yes rfl (o_neqv rfl rfl (o_pickf (.bool (!decide (((setOf ((setOf ((a.take 60).filter (fun v => decide (v ∈ (b.take 60))))).filter (fun v => decide (v ∈ (setOf ((a.take 60).filter (fun v => !(decide (v ∈ (b.take 60)))))))))).length : Int) = 0))) rfl rfl (o_mov (.bool (!decide (((setOf ((setOf ((a.take 60).filter (fun v => decide (v ∈ (b.take 60))))).filter (fun v => decide (v ∈ (setOf ((a.take 60).filter (fun v => !(decide (v ∈ (b.take 60)))))))))).length : Int) = 0))) rfl (wl_caseb (d := 37) rfl rfl (fun h => nomatch h.symm.trans (show (!decide (((setOf ((setOf ((a.take 60).filter (fun v => decide (v ∈ (b.take 60))))).filter (fun v => decide (v ∈ (setOf ((a.take 60).filter (fun v => !(decide (v ∈ (b.take 60)))))))))).length : Int) = 0)) = false from by rw [parts_none]; rfl)) (fun _ => ?_)))))))
  refine wl_yes rfl (o_mov v1 rfl (wl_yes rfl (o_mov v2 rfl (wl_yes rfl (o_ret cc24 (C_vset_Within s9 (e9.rep (e8.rep (e7.rep (e6.rep (e5.rep (e4.rep (e3.rep (e2.rep r1)))))))) (e9.rep (e8.rep (e7.rep (e6.rep (e5.rep (e4.rep (e3.rep r2))))))) (by first | exact big (t60 _) | exact big (sf60 _ _) | exact Nat.le_trans (length_setOf _) (flat2 (sf60 _ _) (sf60 _ _)) | exact Nat.le_trans (length_setOf _) (flat3 (t60 _) (t60 _) (t60 _)) | exact Nat.le_trans (length_setOf _) (flat2 (su2 _ _) (t60 _)))) rfl ?_)))))
  rintro v10 I10 w10 e10 ⟨s10, rfl⟩
  refine wl_yes rfl (o_mov v5 rfl (wl_yes rfl (o_len' (e10.rep (e9.rep (e8.rep (e7.rep (e6.rep r5))))) rfl sl22 rfl (wl_yes rfl (o_eqlv rfl rfl (wl_yes rfl (o_neb rfl rfl Try.underlying4 (o_pickf (.bool (!(((a.take 60).all fun v => decide (v ∈ (b.take 60))) == (decide (((setOf ((a.take 60).filter (fun v => !(decide (v ∈ (b.take 60)))))).length : Int) = 0))))) rfl rfl (wl_nil (wt_cond rfl (fun h => nomatch h.symm.trans (show (!(((a.take 60).all fun v => decide (v ∈ (b.take 60))) == (decide (((setOf ((a.take 60).filter (fun v => !(decide (v ∈ (b.take 60)))))).length : Int) = 0)))) = false from by rw [within_eq]; simp)) (fun _ => ?_)))))))))))
  refine wt_skip (wt_seq (wt_region (o_mov v1 rfl (o_mov v2 rfl (o_mov v3 rfl (o_buildI (xs := ([(a.take 60), (b.take 60), (c.take 60)] : List (List (Int)))) (vs := [v1, v2, v3]) sl29 s10 rfl ⟨(e10.rep (e9.rep (e8.rep (e7.rep (e6.rep (e5.rep (e4.rep (e3.rep (e2.rep r1))))))))), (e10.rep (e9.rep (e8.rep (e7.rep (e6.rep (e5.rep (e4.rep (e3.rep r2)))))))), (e10.rep (e9.rep (e8.rep (e7.rep (e6.rep (e5.rep (e4.rep r3))))))), trivial⟩ rfl rfl (fun v11 I11 w11 e11 s11 r11 => ?_)))))))
  refine o_ret cc18 (C_vset_Union s11 r11 (by first | exact flat2 (sf60 _ _) (sf60 _ _) | exact flat3 (t60 _) (t60 _) (t60 _) | exact flat4 (t60 _) (t60 _) (t60 _) (t60 _) | exact flat2 (t60 _) (t60 _) | exact flat2 (su2 _ _) (t60 _))) rfl ?_
  rintro v12 I12 w12 e12 ⟨s12, r12⟩
  have l12 := rep_len r12
  refine o_asg v12 rfl (wl_nil (wt_seq (wt_seq (wt_region (o_assign (wl_nil (wt_block (wt_loop (fun n f w13 => ∃ (g : Fr) (I13 : Reg) (i : Nat), f = ov [(0, v1), (1, v2), (2, v3), (9, v12), (10, .int .i64 (i : Int))] g ∧ n = ((c.take 60).length - i) ∧ Ext I12 w12 I13 w13 ∧ St I13 w13 T ∧ (i ≤ (c.take 60).length)) _ ⟨_, _, 0, ov_self _ _ ⟨rfl, rfl, rfl, rfl, rfl, trivial⟩, rfl, Ext.refl _ _, s12, by first | omega | simp⟩ ?_))))))))
  rintro n f w13 ⟨g, I13, i, rfl, rfl, e13, s13, h13_0⟩ ih13
  refine wt_seq (wt_seq (wt_region (o_mov (.int .i64 (i : Int)) rfl (o_mov v3 rfl (o_len' (e13.rep (e12.rep (e11.rep (e10.rep (e9.rep (e8.rep (e7.rep (e6.rep (e5.rep (e4.rep r3)))))))))) rfl sl22 rfl (o_lss rfl rfl (fun c51 => ?_) (fun c51 => ?_)))))))
  · refine wl_nil (wt_true rfl (wt_skip (wt_seq (wt_block (wt_seq (wt_region (o_mov v12 rfl (o_mov v3 rfl (o_mov (.int .i64 (i : Int)) rfl (o_index (j := i) sl22 (e13.rep (e12.rep (e11.rep (e10.rep (e9.rep (e8.rep (e7.rep (e6.rep (e5.rep (e4.rep r3)))))))))) rfl rfl rfl (by omega) (fun a14 v14 p14 b14 r14 => ?_)))))))))))
    refine o_load ty3 p14 r14 rfl (?_)
    obtain ⟨rfl, lo14, hi14⟩ := r14
    refine o_ret cc15 (C_vset_Has s13 (e13.rep r12)) rfl ?_
    rintro v15 I15 w15 e15 ⟨s15, rfl⟩
    refine o_not rfl (wl_nil (wt_cond rfl (fun h => nomatch h.symm.trans (show (!(decide (((c.take 60)[i]) ∈ (setOf ([(a.take 60), (b.take 60), (c.take 60)] : List (List (Int))).flatten)))) = false from by rw [Bool.not_eq_false']; exact decide_eq_true ((mem_setOf _).2 (List.mem_flatten.2 ⟨c.take 60, by simp, List.getElem_mem _⟩)))) (fun _ => ?_)))
    refine wt_skip (wt_inBlock (wt_region (o_mov (.int .i64 (i : Int)) rfl (o_addi rfl rfl (by omega) (o_asg (.int .i64 ((i : Int) + 1)) rfl (wl_nil (?_)))))))
    exact ih13.out _ _ _ (by omega) ⟨_, _, i + 1, ov_self _ _ ⟨rfl, rfl, rfl, rfl, int_eq (a := ((i : Int) + 1)) (by omega), trivial⟩, rfl, (e13.trans e15), s15, by clear ih13; first | omega | simp_all⟩
  · refine wl_nil (wt_false rfl (wt_exit rfl (wt_seq (wt_region (o_mov v12 rfl (o_mov v3 rfl (o_mov v2 rfl (o_mov v1 rfl (o_mov v2 rfl (o_buildI (xs := ([(c.take 60), (b.take 60), (a.take 60), (b.take 60)] : List (List (Int)))) (vs := [v3, v2, v1, v2]) sl29 s13 rfl ⟨(e13.rep (e12.rep (e11.rep (e10.rep (e9.rep (e8.rep (e7.rep (e6.rep (e5.rep (e4.rep r3)))))))))), (e13.rep (e12.rep (e11.rep (e10.rep (e9.rep (e8.rep (e7.rep (e6.rep (e5.rep (e4.rep (e3.rep r2))))))))))), (e13.rep (e12.rep (e11.rep (e10.rep (e9.rep (e8.rep (e7.rep (e6.rep (e5.rep (e4.rep (e3.rep (e2.rep r1)))))))))))), (e13.rep (e12.rep (e11.rep (e10.rep (e9.rep (e8.rep (e7.rep (e6.rep (e5.rep (e4.rep (e3.rep r2))))))))))), trivial⟩ rfl rfl (fun v16 I16 w16 e16 s16 r16 => ?_)))))))))))
    refine o_ret cc18 (C_vset_Union s16 r16 (by first | exact flat2 (sf60 _ _) (sf60 _ _) | exact flat3 (t60 _) (t60 _) (t60 _) | exact flat4 (t60 _) (t60 _) (t60 _) (t60 _) | exact flat2 (t60 _) (t60 _) | exact flat2 (su2 _ _) (t60 _))) rfl ?_
    rintro v17 I17 w17 e17 ⟨s17, r17⟩
    have l17 := rep_len r17
    refine o_ret cc11 (C_voussoirref03_Same s17 (e17.rep (e16.rep (e13.rep r12))) r17) rfl ?_
    rintro v18 I18 w18 e18 ⟨s18, rfl⟩
    refine o_mov (.bool ((setOf ([(a.take 60), (b.take 60), (c.take 60)] : List (List (Int))).flatten) == (setOf ([(c.take 60), (b.take 60), (a.take 60), (b.take 60)] : List (List (Int))).flatten))) rfl (wl_caseb (d := 72) rfl rfl (fun _ => ?_) (fun h => nomatch h.symm.trans (show ((setOf ([(a.take 60), (b.take 60), (c.take 60)] : List (List (Int))).flatten) == (setOf ([(c.take 60), (b.take 60), (a.take 60), (b.take 60)] : List (List (Int))).flatten)) = true from by exact setOf_same (fun v => by simp [or_comm, or_assoc, or_left_comm]))))
    refine wl_yes rfl (o_mov v12 rfl (wl_yes rfl (o_mov v1 rfl (wl_yes rfl (o_mov v2 rfl (wl_yes rfl (o_buildI (xs := ([(a.take 60), (b.take 60)] : List (List (Int)))) (vs := [v1, v2]) sl29 s18 rfl ⟨(e18.rep (e17.rep (e16.rep (e13.rep (e12.rep (e11.rep (e10.rep (e9.rep (e8.rep (e7.rep (e6.rep (e5.rep (e4.rep (e3.rep (e2.rep r1))))))))))))))), (e18.rep (e17.rep (e16.rep (e13.rep (e12.rep (e11.rep (e10.rep (e9.rep (e8.rep (e7.rep (e6.rep (e5.rep (e4.rep (e3.rep r2)))))))))))))), trivial⟩ rfl rfl (fun v19 I19 w19 e19 s19 r19 => ?_))))))))
    refine wl_yes rfl (o_ret cc18 (C_vset_Union s19 r19 (by first | exact flat2 (sf60 _ _) (sf60 _ _) | exact flat3 (t60 _) (t60 _) (t60 _) | exact flat4 (t60 _) (t60 _) (t60 _) (t60 _) | exact flat2 (t60 _) (t60 _) | exact flat2 (su2 _ _) (t60 _))) rfl ?_)
    rintro v20 I20 w20 e20 ⟨s20, r20⟩
    have l20 := rep_len r20
    refine wl_yes rfl (o_mov v3 rfl (wl_yes rfl (o_buildI (xs := ([(setOf ([(a.take 60), (b.take 60)] : List (List (Int))).flatten), (c.take 60)] : List (List (Int)))) (vs := [v20, v3]) sl29 s20 rfl ⟨r20, (e20.rep (e19.rep (e18.rep (e17.rep (e16.rep (e13.rep (e12.rep (e11.rep (e10.rep (e9.rep (e8.rep (e7.rep (e6.rep (e5.rep (e4.rep r3))))))))))))))), trivial⟩ rfl rfl (fun v21 I21 w21 e21 s21 r21 => ?_))))
    refine wl_yes rfl (o_ret cc18 (C_vset_Union s21 r21 (by first | exact flat2 (sf60 _ _) (sf60 _ _) | exact flat3 (t60 _) (t60 _) (t60 _) | exact flat4 (t60 _) (t60 _) (t60 _) (t60 _) | exact flat2 (t60 _) (t60 _) | exact flat2 (su2 _ _) (t60 _))) rfl ?_)
    rintro v22 I22 w22 e22 ⟨s22, r22⟩
    have l22 := rep_len r22
    refine wl_yes rfl (o_ret cc26 (C_vset_Same s22 (e22.rep (e21.rep (e20.rep (e19.rep (e18.rep (e17.rep (e16.rep (e13.rep r12)))))))) r22 (by first | exact big (t60 _) | exact big (sf60 _ _) | exact Nat.le_trans (length_setOf _) (flat2 (sf60 _ _) (sf60 _ _)) | exact Nat.le_trans (length_setOf _) (flat3 (t60 _) (t60 _) (t60 _)) | exact Nat.le_trans (length_setOf _) (flat2 (su2 _ _) (t60 _))) (by first | exact big (t60 _) | exact big (sf60 _ _) | exact Nat.le_trans (length_setOf _) (flat2 (sf60 _ _) (sf60 _ _)) | exact Nat.le_trans (length_setOf _) (flat3 (t60 _) (t60 _) (t60 _)) | exact Nat.le_trans (length_setOf _) (flat2 (su2 _ _) (t60 _)))) rfl ?_)
    rintro v23 I23 w23 e23 ⟨s23, rfl⟩
    refine o_pickt (.bool (((setOf ([(a.take 60), (b.take 60), (c.take 60)] : List (List (Int))).flatten).all fun v => decide (v ∈ (setOf ([(setOf ([(a.take 60), (b.take 60)] : List (List (Int))).flatten), (c.take 60)] : List (List (Int))).flatten))) && ((setOf ([(setOf ([(a.take 60), (b.take 60)] : List (List (Int))).flatten), (c.take 60)] : List (List (Int))).flatten).all fun v => decide (v ∈ (setOf ([(a.take 60), (b.take 60), (c.take 60)] : List (List (Int))).flatten))))) rfl rfl (o_mov (.bool (((setOf ([(a.take 60), (b.take 60), (c.take 60)] : List (List (Int))).flatten).all fun v => decide (v ∈ (setOf ([(setOf ([(a.take 60), (b.take 60)] : List (List (Int))).flatten), (c.take 60)] : List (List (Int))).flatten))) && ((setOf ([(setOf ([(a.take 60), (b.take 60)] : List (List (Int))).flatten), (c.take 60)] : List (List (Int))).flatten).all fun v => decide (v ∈ (setOf ([(a.take 60), (b.take 60), (c.take 60)] : List (List (Int))).flatten))))) rfl (wl_caseb (d := 83) rfl rfl (fun _ => ?_) (fun h => nomatch h.symm.trans (show (((setOf ([(a.take 60), (b.take 60), (c.take 60)] : List (List (Int))).flatten).all fun v => decide (v ∈ (setOf ([(setOf ([(a.take 60), (b.take 60)] : List (List (Int))).flatten), (c.take 60)] : List (List (Int))).flatten))) && ((setOf ([(setOf ([(a.take 60), (b.take 60)] : List (List (Int))).flatten), (c.take 60)] : List (List (Int))).flatten).all fun v => decide (v ∈ (setOf ([(a.take 60), (b.take 60), (c.take 60)] : List (List (Int))).flatten)))) = true from by exact same_all (fun v => by simp [mem_setOf, or_assoc])))))
    refine wl_yes rfl (o_mov v2 rfl (wl_yes rfl (o_mov v12 rfl (wl_yes rfl (o_ret cc24 (C_vset_Within s23 (e23.rep (e22.rep (e21.rep (e20.rep (e19.rep (e18.rep (e17.rep (e16.rep (e13.rep (e12.rep (e11.rep (e10.rep (e9.rep (e8.rep (e7.rep (e6.rep (e5.rep (e4.rep (e3.rep r2))))))))))))))))))) (e23.rep (e22.rep (e21.rep (e20.rep (e19.rep (e18.rep (e17.rep (e16.rep (e13.rep r12))))))))) (by first | exact big (t60 _) | exact big (sf60 _ _) | exact Nat.le_trans (length_setOf _) (flat2 (sf60 _ _) (sf60 _ _)) | exact Nat.le_trans (length_setOf _) (flat3 (t60 _) (t60 _) (t60 _)) | exact Nat.le_trans (length_setOf _) (flat2 (su2 _ _) (t60 _)))) rfl ?_)))))
    rintro v24 I24 w24 e24 ⟨s24, rfl⟩
    refine o_pickt (.bool ((b.take 60).all fun v => decide (v ∈ (setOf ([(a.take 60), (b.take 60), (c.take 60)] : List (List (Int))).flatten)))) rfl rfl (o_mov (.bool ((b.take 60).all fun v => decide (v ∈ (setOf ([(a.take 60), (b.take 60), (c.take 60)] : List (List (Int))).flatten)))) rfl (wl_caseb (d := 88) rfl rfl (fun _ => ?_) (fun h => nomatch h.symm.trans (show ((b.take 60).all fun v => decide (v ∈ (setOf ([(a.take 60), (b.take 60), (c.take 60)] : List (List (Int))).flatten))) = true from by simp [mem_setOf]; intro x hx; simp [hx]))))
    refine wl_yes rfl (o_ret cc17 (C_voussoirlaw03_lives s24) rfl ?_)
    rintro v25 I25 w25 e25 ⟨s25, rfl⟩
    refine o_pickt (.bool true) rfl rfl (o_asg (.bool true) rfl (wl_nil (?_)))
    exact ret_one Try.func6 rfl rfl ((((((((((((((((((((((e1.trans e2).trans e3).trans e4).trans e5).trans e6).trans e7).trans e8).trans e9).trans e10).trans e11).trans e12).trans e13).trans e16).trans e17).trans e18).trans e19).trans e20).trans e21).trans e22).trans e23).trans e24).trans e25) ⟨s25, congrArg Value.bool (by rfl)⟩
end Go.Proofs.Ytinfniggaldheaa.V
