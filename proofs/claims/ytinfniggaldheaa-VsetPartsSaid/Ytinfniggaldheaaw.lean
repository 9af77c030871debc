/-
  The walks of vset and of its reference: what each function computes. Written by wip/gen/gen.py.
-/
import Derived.Test.Ytinfniggaldheaah
import Derived.Test.Ytinfniggaldheaap
import Derived.Test.YtinfniggaldheaaChecked
namespace Go.Proofs.Ytinfniggaldheaa
open Go Go.X Go.Vs
theorem sl22 : slB Try.prog 22 3 1 8 = true := by kernel_rfl
theorem ty3 : tyB Try.prog 3 false 1 = true := by kernel_rfl
theorem cc16 : canCall Try.prog 16 = true := by kernel_rfl
theorem cc39 : canCall Try.prog 39 = true := by kernel_rfl
theorem mixed : Try.prog.follows .mixedOrders = true := by kernel_rfl
theorem sl29 : slB Try.prog 29 22 1 24 = true := by kernel_rfl
theorem ty22 : tyB Try.prog 22 false 1 = true := by kernel_rfl
theorem cc10 : canCall Try.prog 10 = true := by kernel_rfl
theorem cc12 : canCall Try.prog 12 = true := by kernel_rfl
theorem cc15 : canCall Try.prog 15 = true := by kernel_rfl
theorem cc40 : canCall Try.prog 40 = true := by kernel_rfl
theorem cc22 : canCall Try.prog 22 = true := by kernel_rfl
theorem cc23 : canCall Try.prog 23 = true := by kernel_rfl
theorem cc24 : canCall Try.prog 24 = true := by kernel_rfl
theorem cc11 : canCall Try.prog 11 = true := by kernel_rfl
theorem cc18 : canCall Try.prog 18 = true := by kernel_rfl
theorem cc13 : canCall Try.prog 13 = true := by kernel_rfl
theorem C_voussoirref03_Has {I : Reg} {w : World} {T : Own} {l : List (Int)} {u0 : Value} {v : Int} (s0 : St I w T) (r_l : rep I w u0 l) :
    Ret Try.prog 16 [u0, .int .i64 v] I w fun r I' w' => St I' w' T ∧ r = .bool (decide (v ∈ l)) := by
  have l_l := rep_len r_l
  refine ret_of_wt Try.func16 rfl Try.ntmps16 rfl ?_
  refine wt_seq (wt_region (o_assign (wl_nil (wt_seq (wt_seq (wt_region (o_assign (wl_nil (wt_block (wt_loop (fun n f w1 => ∃ (g : Fr) (I1 : Reg) (i : Nat), f = ov [(0, u0), (1, .int .i64 v), (5, .int .i64 (i : Int))] g ∧ n = (l.length - i) ∧ Ext I w I1 w1 ∧ St I1 w1 T ∧ (i ≤ l.length) ∧ (v ∈ l ↔ v ∈ l.drop i)) _ ⟨_, _, 0, ov_self _ _ ⟨rfl, rfl, rfl, trivial⟩, rfl, Ext.refl _ _, s0, by first | omega | simp, by first | omega | simp⟩ ?_))))))))))
  rintro n f w1 ⟨g, I1, i, rfl, rfl, e1, s1, h1_0, h1_1⟩ ih1
  refine wt_seq (wt_seq (wt_region (o_mov (.int .i64 (i : Int)) rfl (o_mov u0 rfl (o_len' (e1.rep r_l) rfl sl22 rfl (o_lss rfl rfl (fun c6 => ?_) (fun c6 => ?_)))))))
  · refine wl_nil (wt_true rfl (wt_skip (wt_seq (wt_block (wt_seq (wt_region (o_mov u0 rfl (o_mov (.int .i64 (i : Int)) rfl (o_index (j := i) sl22 (e1.rep r_l) rfl rfl rfl (by omega) (fun a2 v2 p2 b2 r2 => ?_))))))))))
    refine o_load ty3 p2 r2 rfl (?_)
    obtain ⟨rfl, lo2, hi2⟩ := r2
    refine o_mov (.int .i64 v) rfl (o_eql rfl rfl (fun c7 => ?_) (fun c7 => ?_))
    · refine wl_nil (wt_true rfl (wt_seq (wt_region (o_assign (wl_nil (?_))))))
      exact ret_one Try.func16 rfl rfl e1 ⟨s1, congrArg Value.bool (by symm; apply decide_eq_true; rw [← c7]; exact List.getElem_mem _)⟩
    · refine wl_nil (wt_false rfl (wt_skip (wt_inBlock (wt_region (o_mov (.int .i64 (i : Int)) rfl (o_addi rfl rfl (by omega) (o_asg (.int .i64 ((i : Int) + 1)) rfl (wl_nil (?_)))))))))
      exact ih1.out _ _ _ (by omega) ⟨_, _, i + 1, ov_self _ _ ⟨rfl, rfl, int_eq (a := ((i : Int) + 1)) (by omega), trivial⟩, rfl, e1, s1, by clear ih1; first | omega | simp_all, by clear ih1; rw [h1_1, List.drop_eq_getElem_cons (by omega), List.mem_cons]; simp [Ne.symm c7]⟩
  · refine wl_nil (wt_false rfl (wt_exit rfl (wt_seq (wt_region (o_assign (wl_nil (?_)))))))
    exact ret_one Try.func16 rfl rfl e1 ⟨s1, congrArg Value.bool (by symm; apply decide_eq_false; rw [h1_1, List.drop_eq_nil_of_le (by omega)]; simp)⟩

theorem C_vset_Has {I : Reg} {w : World} {T : Own} {l : List (Int)} {u0 : Value} {v : Int} (s0 : St I w T) (r_l : rep I w u0 l) :
    Ret Try.prog 15 [u0, .int .i64 v] I w fun r I' w' => St I' w' T ∧ r = .bool (decide (v ∈ l)) := by
  have l_l := rep_len r_l
  refine ret_of_wt Try.func15 rfl Try.ntmps15 rfl ?_
  refine wt_seq (wt_region (o_assign (wl_nil (wt_seq (wt_seq (wt_region (o_mov u0 rfl (o_len' r_l rfl sl22 rfl (o_move (wl_nil (wt_block (wt_loop (fun n f w1 => ∃ (g : Fr) (I1 : Reg) (i : Nat), f = ov [(1, .int .i64 v), (7, u0), (8, .int .i64 (l.length : Int)), (9, .int .i64 (i : Int))] g ∧ n = (l.length - i) ∧ Ext I w I1 w1 ∧ St I1 w1 T ∧ (i ≤ l.length) ∧ (v ∈ l ↔ v ∈ l.drop i)) _ ⟨_, _, 0, ov_self _ _ ⟨rfl, rfl, rfl, rfl, trivial⟩, rfl, Ext.refl _ _, s0, by first | omega | simp, by first | omega | simp⟩ ?_))))))))))))
  rintro n f w1 ⟨g, I1, i, rfl, rfl, e1, s1, h1_0, h1_1⟩ ih1
  refine wt_seq (wt_region (o_lss rfl rfl (fun c34 => ?_) (fun c34 => ?_)))
  · refine wl_nil (wt_seq (wt_true rfl (wt_skip (wt_seq (wt_block (wt_seq (wt_region (o_index (j := i) sl22 (e1.rep r_l) rfl rfl rfl (by omega) (fun a2 v2 p2 b2 r2 => ?_)))))))))
    refine o_load ty3 p2 r2 rfl (?_)
    obtain ⟨rfl, lo2, hi2⟩ := r2
    refine o_asg (.int .i64 (l[i])) rfl (wl_nil (wt_seq (wt_region (o_mov (.int .i64 (l[i])) rfl (o_mov (.int .i64 v) rfl (o_eql rfl rfl (fun c35 => ?_) (fun c35 => ?_)))))))
    · refine wl_nil (wt_true rfl (wt_seq (wt_region (o_assign (wl_nil (?_))))))
      exact ret_one Try.func15 rfl rfl e1 ⟨s1, congrArg Value.bool (by symm; apply decide_eq_true; rw [← c35]; exact List.getElem_mem _)⟩
    · refine wl_nil (wt_false rfl (wt_skip (wt_inBlock (wt_region (o_addi rfl rfl (by omega) (o_mov (.int .i64 ((i : Int) + 1)) rfl (wl_nil (?_))))))))
      exact ih1.out _ _ _ (by omega) ⟨_, _, i + 1, ov_self _ _ ⟨rfl, rfl, rfl, int_eq (a := ((i : Int) + 1)) (by omega), trivial⟩, rfl, e1, s1, by clear ih1; first | omega | simp_all, by clear ih1; rw [h1_1, List.drop_eq_getElem_cons (by omega), List.mem_cons]; simp [Ne.symm c35]⟩
  · refine wl_nil (wt_seq (wt_false rfl (wt_exit rfl (wt_seq (wt_region (o_assign (wl_nil (?_))))))))
    exact ret_one Try.func15 rfl rfl e1 ⟨s1, congrArg Value.bool (by symm; apply decide_eq_false; rw [h1_1, List.drop_eq_nil_of_le (by omega)]; simp)⟩

theorem C_voussoirlaw03_few {I : Reg} {w : World} {T : Own} {l : List (Int)} {u0 : Value} (s0 : St I w T) (r_l : rep I w u0 l) :
    Ret Try.prog 9 [u0] I w fun r I' w' => St I' w' T ∧ rep I' w' r (l.take 60) := by
  have l_l := rep_len r_l
  refine ret_of_wt Try.func9 rfl Try.ntmps9 rfl ?_
  refine wt_seq (wt_region (o_assign (wl_nil (wt_seq (wt_region (o_mov u0 rfl (o_mov u0 rfl (o_len' r_l rfl sl22 rfl (o_min2 rfl rfl (o_slice_hi (j := ((min (l.length : Int) 60)).toNat) sl22 r_l rfl rfl (by omega) (by omega) (fun v1 r1 => ?_)))))))))))
  have l1 := rep_len r1
  refine o_asg v1 rfl (wl_nil (?_))
  exact ret_one Try.func9 rfl rfl (Ext.refl _ _) ⟨s0, rep_cast (by apply List.take_eq_take_iff.2; omega) r1⟩

theorem C_voussoirref03_put {I : Reg} {w : World} {T : Own} {l : List (Int)} {u0 : Value} {v : Int} (s0 : St I w T) (r_l : rep I w u0 l) (q0 : l.length ≤ 1000000) (q1 : -9223372036854775808 ≤ v ∧ v ≤ 9223372036854775807) :
    Ret Try.prog 39 [u0, .int .i64 v] I w fun r I' w' => St I' w' T ∧ rep I' w' r (putL v l) := by
  have l_l := rep_len r_l
  refine ret_of_wt Try.func39 rfl Try.ntmps39 rfl ?_
  refine wt_seq (wt_region (o_assign (wl_nil (wt_seq (wt_region (o_buildO (xs := ([] : List (Int))) (vs := []) sl22 s0 rfl trivial rfl rfl (fun v1 A1 w1 e1 s1 o1 => ?_)))))))
  refine o_asg v1 rfl (wl_nil (wt_seq (wt_region (o_assign (wl_nil (wt_seq (wt_seq (wt_region (o_assign (wl_nil (wt_block (wt_loop (fun n f w2 => ∃ (g : Fr) (I2 : Reg) (i : Nat) (out : List Int) (done : Bool) (A3 : Own) (v3 : Value), f = ov [(0, u0), (1, .int .i64 v), (5, v3), (6, .bool done), (7, .int .i64 (i : Int))] g ∧ n = (l.length - i) ∧ Ext I w1 I2 w2 ∧ St I2 w2 (A3 ++ T) ∧ OwnSl I2 w2 3 A3 v3 out ∧ (i ≤ l.length) ∧ (out.length ≤ i + (if done then 1 else 0)) ∧ (out ++ (if done then l.drop i else putL v (l.drop i)) = putL v l)) _ ⟨_, _, 0, [], false, A1, v1, ov_self _ _ ⟨rfl, rfl, rfl, rfl, rfl, trivial⟩, rfl, Ext.refl _ _, s1, (OwnSl.cast (by simp) o1), by first | omega | simp, by first | omega | simp, by first | omega | simp⟩ ?_))))))))))))
  rintro n f w2 ⟨g, I2, i, out, done, A3, v3, rfl, rfl, e2, s2, o3, h2_0, h2_1, h2_2⟩ ih2
  have l3 := o3.bd
  refine wt_seq (wt_seq (wt_region (o_mov (.int .i64 (i : Int)) rfl (o_mov u0 rfl (o_len' (e2.rep (e1.rep r_l)) rfl sl22 rfl (o_lss rfl rfl (fun c18 => ?_) (fun c18 => ?_)))))))
  · refine wl_nil (wt_true rfl (wt_skip (wt_seq (wt_block (wt_seq (wt_seq (wt_region (o_mov (.bool done) rfl (o_not rfl (o_mov (.bool (!done)) rfl (wl_caseb (d := 17) rfl rfl (fun c19 => ?_) (fun c19 => ?_))))))))))))
    · refine wl_yes rfl (o_mov u0 rfl (wl_yes rfl (o_mov (.int .i64 (i : Int)) rfl (wl_yes rfl (o_index (j := i) sl22 (e2.rep (e1.rep r_l)) rfl rfl rfl (by omega) (fun a4 v4 p4 b4 r4 => ?_))))))
      refine wl_yes rfl (o_load ty3 p4 r4 rfl (?_))
      obtain ⟨rfl, lo4, hi4⟩ := r4
      refine wl_yes rfl (o_mov (.int .i64 v) rfl (wl_yes rfl (o_gtr rfl rfl (fun c19a => ?_) (fun c19a => ?_))))
      · refine o_pickt (.bool true) rfl rfl (wl_nil (wt_true rfl (wt_seq (wt_region (o_mov v3 rfl (o_mov (.int .i64 v) rfl (o_buildI (xs := ([v] : List (Int))) (vs := [.int .i64 v]) sl22 s2 rfl ⟨⟨rfl, by omega, by omega⟩, trivial⟩ rfl rfl (fun v5 I5 w5 e5 s5 r5 => ?_))))))))
        refine o_append sl22 s5 (o3.mono e5) r5 rfl rfl (by simp; split at h2_1 <;> omega) (by simp; split at h2_1 <;> omega) (fun v6 A6 w6 e6 s6 o6 => ?_)
        have l6 := o6.bd
        refine o_asg v6 rfl (wl_nil (wt_region (o_assign (wl_nil (wt_region (o_mov v6 rfl (o_mov u0 rfl (o_mov (.int .i64 (i : Int)) rfl (o_index (j := i) sl22 (e6.rep (e5.rep (e2.rep (e1.rep r_l)))) rfl rfl rfl (by omega) (fun a7 v7 p7 b7 r7 => ?_))))))))))
        refine o_load ty3 p7 r7 rfl (?_)
        obtain ⟨rfl, lo7, hi7⟩ := r7
        refine o_buildI (xs := ([l[i]] : List (Int))) (vs := [.int .i64 (l[i])]) sl22 s6 rfl ⟨⟨rfl, by omega, by omega⟩, trivial⟩ rfl rfl (fun v8 I8 w8 e8 s8 r8 => ?_)
        refine o_append sl22 s8 (o6.mono e8) r8 rfl rfl (by simp; split at h2_1 <;> omega) (by simp; split at h2_1 <;> omega) (fun v9 A9 w9 e9 s9 o9 => ?_)
        have l9 := o9.bd
        refine o_asg v9 rfl (wl_nil (wt_inBlock (wt_region (o_mov (.int .i64 (i : Int)) rfl (o_addi rfl rfl (by omega) (o_asg (.int .i64 ((i : Int) + 1)) rfl (wl_nil (?_))))))))
        exact ih2.out _ _ _ (by omega) ⟨_, _, i + 1, ((out ++ ([v] : List (Int))) ++ ([l[i]] : List (Int))), true, A9, v9, ov_self _ _ ⟨rfl, rfl, rfl, rfl, int_eq (a := ((i : Int) + 1)) (by omega), trivial⟩, rfl, ((((e2.trans e5).trans e6).trans e8).trans e9), s9, (OwnSl.cast (by clear ih2; rfl) o9), by clear ih2; first | omega | simp_all, by clear ih2; simp at c19; subst c19; simp at h2_1; simp; omega, by clear ih2; have hd := List.drop_eq_getElem_cons (l := l) (i := i) (by omega); rw [← h2_2, hd]; clear hd h2_2; simp at c19; subst c19; first | (simp [putL, c19a]; done) | simp⟩
      · refine o_pickt (.bool false) rfl rfl (wl_nil (wt_false rfl (wt_skip (wt_region (o_mov v3 rfl (o_mov u0 rfl (o_mov (.int .i64 (i : Int)) rfl (o_index (j := i) sl22 (e2.rep (e1.rep r_l)) rfl rfl rfl (by omega) (fun a10 v10 p10 b10 r10 => ?_)))))))))
        refine o_load ty3 p10 r10 rfl (?_)
        obtain ⟨rfl, lo10, hi10⟩ := r10
        refine o_buildI (xs := ([l[i]] : List (Int))) (vs := [.int .i64 (l[i])]) sl22 s2 rfl ⟨⟨rfl, by omega, by omega⟩, trivial⟩ rfl rfl (fun v11 I11 w11 e11 s11 r11 => ?_)
        refine o_append sl22 s11 (o3.mono e11) r11 rfl rfl (by simp; split at h2_1 <;> omega) (by simp; split at h2_1 <;> omega) (fun v12 A12 w12 e12 s12 o12 => ?_)
        have l12 := o12.bd
        refine o_asg v12 rfl (wl_nil (wt_inBlock (wt_region (o_mov (.int .i64 (i : Int)) rfl (o_addi rfl rfl (by omega) (o_asg (.int .i64 ((i : Int) + 1)) rfl (wl_nil (?_))))))))
        exact ih2.out _ _ _ (by omega) ⟨_, _, i + 1, (out ++ ([l[i]] : List (Int))), done, A12, v12, ov_self _ _ ⟨rfl, rfl, rfl, rfl, int_eq (a := ((i : Int) + 1)) (by omega), trivial⟩, rfl, ((e2.trans e11).trans e12), s12, (OwnSl.cast (by clear ih2; rfl) o12), by clear ih2; first | omega | simp_all, by clear ih2; simp at c19; subst c19; simp at h2_1; simp; omega, by clear ih2; have hd := List.drop_eq_getElem_cons (l := l) (i := i) (by omega); rw [← h2_2, hd]; clear hd h2_2; simp at c19; subst c19; first | (simp [putL, c19a]; done) | simp⟩
    · refine wl_no rfl (wl_no rfl (wl_no rfl (wl_no rfl (wl_no rfl (wl_no rfl (o_pick0 rfl (wl_nil (wt_false rfl (wt_skip (wt_region (o_mov v3 rfl (o_mov u0 rfl (o_mov (.int .i64 (i : Int)) rfl (o_index (j := i) sl22 (e2.rep (e1.rep r_l)) rfl rfl rfl (by omega) (fun a13 v13 p13 b13 r13 => ?_)))))))))))))))
      refine o_load ty3 p13 r13 rfl (?_)
      obtain ⟨rfl, lo13, hi13⟩ := r13
      refine o_buildI (xs := ([l[i]] : List (Int))) (vs := [.int .i64 (l[i])]) sl22 s2 rfl ⟨⟨rfl, by omega, by omega⟩, trivial⟩ rfl rfl (fun v14 I14 w14 e14 s14 r14 => ?_)
      refine o_append sl22 s14 (o3.mono e14) r14 rfl rfl (by simp; split at h2_1 <;> omega) (by simp; split at h2_1 <;> omega) (fun v15 A15 w15 e15 s15 o15 => ?_)
      have l15 := o15.bd
      refine o_asg v15 rfl (wl_nil (wt_inBlock (wt_region (o_mov (.int .i64 (i : Int)) rfl (o_addi rfl rfl (by omega) (o_asg (.int .i64 ((i : Int) + 1)) rfl (wl_nil (?_))))))))
      exact ih2.out _ _ _ (by omega) ⟨_, _, i + 1, (out ++ ([l[i]] : List (Int))), done, A15, v15, ov_self _ _ ⟨rfl, rfl, rfl, rfl, int_eq (a := ((i : Int) + 1)) (by omega), trivial⟩, rfl, ((e2.trans e14).trans e15), s15, (OwnSl.cast (by clear ih2; rfl) o15), by clear ih2; first | omega | simp_all, by clear ih2; simp at c19; subst c19; simp at h2_1; simp; omega, by clear ih2; have hd := List.drop_eq_getElem_cons (l := l) (i := i) (by omega); rw [← h2_2, hd]; clear hd h2_2; simp at c19; subst c19; first | (simp [putL, c19a]; done) | simp⟩
  · refine wl_nil (wt_false rfl (wt_exit rfl (wt_seq (wt_seq (wt_region (o_mov (.bool done) rfl (o_not rfl (wl_nil (wt_cond rfl (fun c25 => ?_) (fun c25 => ?_))))))))))
    · refine wt_region (o_mov v3 rfl (o_mov (.int .i64 v) rfl (o_buildI (xs := ([v] : List (Int))) (vs := [.int .i64 v]) sl22 s2 rfl ⟨⟨rfl, by omega, by omega⟩, trivial⟩ rfl rfl (fun v16 I16 w16 e16 s16 r16 => ?_))))
      refine o_append sl22 s16 (o3.mono e16) r16 rfl rfl (by simp; split at h2_1 <;> omega) (by simp; split at h2_1 <;> omega) (fun v17 A17 w17 e17 s17 o17 => ?_)
      have l17 := o17.bd
      refine o_asg v17 rfl (wl_nil (wt_seq (wt_region (o_mov v17 rfl (o_asg v17 rfl (wl_nil (?_)))))))
      obtain ⟨I18, e18, s18, r18⟩ := OwnSl.freeze o17 s17
      exact ret_one Try.func39 rfl rfl ((((e1.trans e2).trans e16).trans e17).trans e18) ⟨s18, rep_cast (by have hd : l.drop i = [] := List.drop_eq_nil_of_le (by omega); rw [← h2_2, hd]; clear hd h2_2; simp at c25; subst c25; simp [putL]) r18⟩
    · refine wt_skip (wt_seq (wt_region (o_mov v3 rfl (o_asg v3 rfl (wl_nil (?_))))))
      obtain ⟨I19, e19, s19, r19⟩ := OwnSl.freeze o3 s2
      exact ret_one Try.func39 rfl rfl ((e1.trans e2).trans e19) ⟨s19, rep_cast (by have hd : l.drop i = [] := List.drop_eq_nil_of_le (by omega); rw [← h2_2, hd]; clear hd h2_2; simp at c25; subst c25; simp [putL]) r19⟩

theorem C_voussoirref03_Of {I : Reg} {w : World} {T : Own} {l : List (Int)} {u0 : Value} (s0 : St I w T) (r_l : rep I w u0 l) (q0 : l.length ≤ 1000000) :
    Ret Try.prog 12 [u0] I w fun r I' w' => St I' w' T ∧ rep I' w' r (refOf l) := by
  have l_l := rep_len r_l
  refine ret_of_wt Try.func12 rfl Try.ntmps12 rfl ?_
  refine wt_seq (wt_region (o_assign (wl_nil (wt_seq (wt_region (o_buildI (xs := ([] : List (Int))) (vs := []) sl22 s0 rfl trivial rfl rfl (fun v1 I1 w1 e1 s1 r1 => ?_)))))))
  refine o_asg v1 rfl (wl_nil (wt_seq (wt_seq (wt_region (o_assign (wl_nil (wt_block (wt_loop (fun n f w2 => ∃ (g : Fr) (I2 : Reg) (i : Nat) (out : List Int) (v3 : Value), f = ov [(0, u0), (3, v3), (4, .int .i64 (i : Int))] g ∧ n = (l.length - i) ∧ Ext I1 w1 I2 w2 ∧ St I2 w2 T ∧ rep I2 w2 v3 out ∧ (i ≤ l.length) ∧ (out.length ≤ i) ∧ ((l.drop i).foldl refStep out = refOf l)) _ ⟨_, _, 0, [], v1, ov_self _ _ ⟨rfl, rfl, rfl, trivial⟩, rfl, Ext.refl _ _, s1, (rep_cast (by simp) r1), by first | omega | simp, by first | omega | simp, by simp [refOf]⟩ ?_))))))))
  rintro n f w2 ⟨g, I2, i, out, v3, rfl, rfl, e2, s2, r3, h2_0, h2_1, h2_2⟩ ih2
  have l3 := rep_len r3
  refine wt_seq (wt_seq (wt_region (o_mov (.int .i64 (i : Int)) rfl (o_mov u0 rfl (o_len' (e2.rep (e1.rep r_l)) rfl sl22 rfl (o_lss rfl rfl (fun c34 => ?_) (fun c34 => ?_)))))))
  · refine wl_nil (wt_true rfl (wt_skip (wt_seq (wt_block (wt_seq (wt_region (o_mov v3 rfl (o_mov u0 rfl (o_mov (.int .i64 (i : Int)) rfl (o_index (j := i) sl22 (e2.rep (e1.rep r_l)) rfl rfl rfl (by omega) (fun a4 v4 p4 b4 r4 => ?_)))))))))))
    refine o_load ty3 p4 r4 rfl (?_)
    obtain ⟨rfl, lo4, hi4⟩ := r4
    refine o_ret cc16 (C_voussoirref03_Has s2 r3) rfl ?_
    rintro v5 I5 w5 e5 ⟨s5, rfl⟩
    refine o_not rfl (wl_nil (wt_cond rfl (fun c35 => ?_) (fun c35 => ?_)))
    · refine wt_region (o_mov v3 rfl (o_mov u0 rfl (o_mov (.int .i64 (i : Int)) rfl (o_index (j := i) sl22 (e5.rep (e2.rep (e1.rep r_l))) rfl rfl rfl (by omega) (fun a6 v6 p6 b6 r6 => ?_)))))
      refine o_load ty3 p6 r6 rfl (?_)
      obtain ⟨rfl, lo6, hi6⟩ := r6
      refine o_ret cc39 (C_voussoirref03_put s5 (e5.rep r3) (by omega) (by first | omega | simp_all)) rfl ?_
      rintro v7 I7 w7 e7 ⟨s7, r7⟩
      have l7 := rep_len r7
      refine o_asg v7 rfl (wl_nil (wt_inBlock (wt_region (o_mov (.int .i64 (i : Int)) rfl (o_addi rfl rfl (by omega) (o_asg (.int .i64 ((i : Int) + 1)) rfl (wl_nil (?_))))))))
      exact ih2.out _ _ _ (by omega) ⟨_, _, i + 1, (putL (l[i]) out), v7, ov_self _ _ ⟨rfl, rfl, int_eq (a := ((i : Int) + 1)) (by omega), trivial⟩, rfl, ((e2.trans e5).trans e7), s7, (rep_cast (by clear ih2; rfl) r7), by clear ih2; first | omega | simp_all, by clear ih2; first | omega | (simp only [length_putL]; omega), by clear ih2; have hd := List.drop_eq_getElem_cons (l := l) (i := i) (by omega); rw [← h2_2, hd]; clear hd h2_2; simp at c35; simp only [List.foldl_cons, refStep]; first | rw [if_neg c35] | rw [if_pos c35]⟩
    · refine wt_skip (wt_inBlock (wt_region (o_mov (.int .i64 (i : Int)) rfl (o_addi rfl rfl (by omega) (o_asg (.int .i64 ((i : Int) + 1)) rfl (wl_nil (?_)))))))
      exact ih2.out _ _ _ (by omega) ⟨_, _, i + 1, out, v3, ov_self _ _ ⟨rfl, rfl, int_eq (a := ((i : Int) + 1)) (by omega), trivial⟩, rfl, (e2.trans e5), s5, (rep_cast (by clear ih2; rfl) (e5.rep r3)), by clear ih2; first | omega | simp_all, by clear ih2; first | omega | (simp only [length_putL]; omega), by clear ih2; have hd := List.drop_eq_getElem_cons (l := l) (i := i) (by omega); rw [← h2_2, hd]; clear hd h2_2; simp at c35; simp only [List.foldl_cons, refStep]; first | rw [if_neg c35] | rw [if_pos c35]⟩
  · refine wl_nil (wt_false rfl (wt_exit rfl (wt_seq (wt_region (o_mov v3 rfl (o_asg v3 rfl (wl_nil (?_))))))))
    exact ret_one Try.func12 rfl rfl (e1.trans e2) ⟨s2, rep_cast (by have hd : l.drop i = [] := List.drop_eq_nil_of_le (by omega); rw [← h2_2, hd]; clear hd h2_2; rfl) r3⟩

theorem C_voussoirref03_Same {I : Reg} {w : World} {T : Own} {a : List (Int)} {u0 : Value} {b : List (Int)} {u1 : Value} (s0 : St I w T) (r_a : rep I w u0 a) (r_b : rep I w u1 b) :
    Ret Try.prog 11 [u0, u1] I w fun r I' w' => St I' w' T ∧ r = .bool (a == b) := by
  have l_a := rep_len r_a
  have l_b := rep_len r_b
  refine ret_of_wt Try.func11 rfl Try.ntmps11 rfl ?_
  refine wt_seq (wt_region (o_assign (wl_nil (wt_seq (wt_seq (wt_region (o_mov u0 rfl (o_len' r_a rfl sl22 rfl (o_mov u1 rfl (o_len' r_b rfl sl22 rfl (o_neq rfl rfl (fun c88 => ?_) (fun c88 => ?_))))))))))))
  · refine wl_nil (wt_true rfl (wt_seq (wt_region (o_assign (wl_nil (?_))))))
    exact ret_one Try.func11 rfl rfl (Ext.refl _ _) ⟨s0, congrArg Value.bool (by symm; apply beq_eq_false_iff_ne.2; rintro rfl; simp at c88)⟩
  · refine wl_nil (wt_false rfl (wt_skip (wt_seq (wt_seq (wt_region (o_assign (wl_nil (wt_block (wt_loop (fun n f w1 => ∃ (g : Fr) (I1 : Reg) (i : Nat), f = ov [(0, u0), (1, u1), (5, .int .i64 (i : Int))] g ∧ n = (a.length - i) ∧ Ext I w I1 w1 ∧ St I1 w1 T ∧ (i ≤ a.length) ∧ ((a == b) = (a.drop i == b.drop i))) _ ⟨_, _, 0, ov_self _ _ ⟨rfl, rfl, rfl, trivial⟩, rfl, Ext.refl _ _, s0, by first | omega | simp, by first | omega | simp⟩ ?_)))))))))
    rintro n f w1 ⟨g, I1, i, rfl, rfl, e1, s1, h1_0, h1_1⟩ ih1
    refine wt_seq (wt_seq (wt_region (o_mov (.int .i64 (i : Int)) rfl (o_mov u0 rfl (o_len' (e1.rep r_a) rfl sl22 rfl (o_lss rfl rfl (fun c91 => ?_) (fun c91 => ?_)))))))
    · refine wl_nil (wt_true rfl (wt_skip (wt_seq (wt_block (wt_seq (wt_drawS s1 mixed rfl (fun w2 e2 s2 => ?_)))))))
      refine g_op (i := 0) rfl rfl rfl (by kernel_rfl) rfl ⟨_, e2⟩ (fun w' ⟨I', e'⟩ => o_mov u0 rfl ⟨rfl, rfl⟩) (g_op (i := 1) rfl rfl rfl (by kernel_rfl) rfl ⟨_, e2⟩ (fun w' ⟨I', e'⟩ => o_mov (.int .i64 (i : Int)) rfl ⟨rfl, rfl⟩) (?_))
      obtain ⟨a3, v3, p3, b3, r3, x3⟩ := at_index (j := i) sl22 (e1.rep r_a) (by omega)
      refine g_op (i := 2) rfl rfl rfl (by kernel_rfl) rfl ⟨_, e2⟩ (fun w' ⟨I', e'⟩ => o_ix x3 rfl rfl rfl ⟨rfl, rfl⟩) (g_op (i := 3) rfl rfl rfl (by kernel_rfl) rfl ⟨_, e2⟩ (fun w' ⟨I', e'⟩ => o_load ty3 (p3.mono e' b3) (e'.rep r3) rfl ⟨rfl, rfl⟩) (?_))
      obtain ⟨rfl, lo3, hi3⟩ := r3
      refine g_op (i := 4) rfl rfl rfl (by kernel_rfl) rfl ⟨_, e2⟩ (fun w' ⟨I', e'⟩ => o_mov u1 rfl ⟨rfl, rfl⟩) (g_op (i := 5) rfl rfl rfl (by kernel_rfl) rfl ⟨_, e2⟩ (fun w' ⟨I', e'⟩ => o_mov (.int .i64 (i : Int)) rfl ⟨rfl, rfl⟩) (?_))
      obtain ⟨a4, v4, p4, b4, r4, x4⟩ := at_index (j := i) sl22 (e1.rep r_b) (by omega)
      refine g_op (i := 6) rfl rfl rfl (by kernel_rfl) rfl ⟨_, e2⟩ (fun w' ⟨I', e'⟩ => o_ix x4 rfl rfl rfl ⟨rfl, rfl⟩) (g_op (i := 7) rfl rfl rfl (by kernel_rfl) rfl ⟨_, e2⟩ (fun w' ⟨I', e'⟩ => o_load ty3 (p4.mono e' b4) (e'.rep r4) rfl ⟨rfl, rfl⟩) (?_))
      obtain ⟨rfl, lo4, hi4⟩ := r4
      refine g_op (i := 8) rfl rfl rfl (by kernel_rfl) rfl ⟨_, e2⟩ (fun w' ⟨I', e'⟩ => o_neqv rfl rfl ⟨rfl, rfl⟩) (g_done (by kernel_rfl) (wt_cond rfl (fun c92 => ?_) (fun c92 => ?_)))
      · refine wt_seq (wt_region (o_assign (wl_nil (?_))))
        exact ret_one Try.func11 rfl rfl (e1.trans e2) ⟨s2, congrArg Value.bool (by have hd := List.drop_eq_getElem_cons (l := a) (i := i) (by omega); have hd2 := List.drop_eq_getElem_cons (l := b) (i := i) (by omega); simp at c92; rw [h1_1, hd, hd2, List.cons_beq_cons, beq_eq_false_iff_ne.2 c92]; rfl)⟩
      · refine wt_skip (wt_inBlock (wt_region (o_mov (.int .i64 (i : Int)) rfl (o_addi rfl rfl (by omega) (o_asg (.int .i64 ((i : Int) + 1)) rfl (wl_nil (?_)))))))
        exact ih1.out _ _ _ (by omega) ⟨_, _, i + 1, ov_self _ _ ⟨rfl, rfl, int_eq (a := ((i : Int) + 1)) (by omega), trivial⟩, rfl, (e1.trans e2), s2, by clear ih1; first | omega | simp_all, by clear ih1; have hd := List.drop_eq_getElem_cons (l := a) (i := i) (by omega); have hd2 := List.drop_eq_getElem_cons (l := b) (i := i) (by omega); simp at c92; rw [h1_1, hd, hd2, List.cons_beq_cons, c92]; simp⟩
    · refine wl_nil (wt_false rfl (wt_exit rfl (wt_seq (wt_region (o_assign (wl_nil (?_)))))))
      exact ret_one Try.func11 rfl rfl e1 ⟨s1, congrArg Value.bool (by rw [h1_1, List.drop_eq_nil_of_le (by omega), List.drop_eq_nil_of_le (by omega)]; rfl)⟩

theorem C_voussoirref03_Right {I : Reg} {w : World} {T : Own} {l : List (Int)} {u0 : Value} (s0 : St I w T) (r_l : rep I w u0 l) :
    Ret Try.prog 14 [u0] I w fun r I' w' => St I' w' T ∧ r = .bool (inc l) := by
  have l_l := rep_len r_l
  refine ret_of_wt Try.func14 rfl Try.ntmps14 rfl ?_
  refine wt_seq (wt_region (o_assign (wl_nil (wt_seq (wt_seq (wt_region (o_assign (wl_nil (wt_block (wt_loop (fun n f w1 => ∃ (g : Fr) (I1 : Reg) (i : Nat), f = ov [(0, u0), (3, .int .i64 (i : Int))] g ∧ n = (l.length - i) ∧ Ext I w I1 w1 ∧ St I1 w1 T ∧ (1 ≤ i) ∧ (l.length ≤ 1 ∨ i ≤ l.length) ∧ (inc l = inc (l.drop (i - 1)))) _ ⟨_, _, 1, ov_self _ _ ⟨rfl, rfl, trivial⟩, rfl, Ext.refl _ _, s0, by first | omega | simp, by omega, by simp⟩ ?_))))))))))
  rintro n f w1 ⟨g, I1, i, rfl, rfl, e1, s1, h1_0, h1_1, h1_2⟩ ih1
  refine wt_seq (wt_seq (wt_region (o_mov (.int .i64 (i : Int)) rfl (o_mov u0 rfl (o_len' (e1.rep r_l) rfl sl22 rfl (o_lss rfl rfl (fun c44 => ?_) (fun c44 => ?_)))))))
  · refine wl_nil (wt_true rfl (wt_skip (wt_seq (wt_block (wt_seq (wt_drawS s1 mixed rfl (fun w2 e2 s2 => ?_)))))))
    refine g_op (i := 0) rfl rfl rfl (by kernel_rfl) rfl ⟨_, e2⟩ (fun w' ⟨I', e'⟩ => o_mov u0 rfl ⟨rfl, rfl⟩) (g_op (i := 1) rfl rfl rfl (by kernel_rfl) rfl ⟨_, e2⟩ (fun w' ⟨I', e'⟩ => o_mov (.int .i64 (i : Int)) rfl ⟨rfl, rfl⟩) (?_))
    obtain ⟨a3, v3, p3, b3, r3, x3⟩ := at_index (j := i) sl22 (e1.rep r_l) (by omega)
    refine g_op (i := 2) rfl rfl rfl (by kernel_rfl) rfl ⟨_, e2⟩ (fun w' ⟨I', e'⟩ => o_ix x3 rfl rfl rfl ⟨rfl, rfl⟩) (g_op (i := 3) rfl rfl rfl (by kernel_rfl) rfl ⟨_, e2⟩ (fun w' ⟨I', e'⟩ => o_load ty3 (p3.mono e' b3) (e'.rep r3) rfl ⟨rfl, rfl⟩) (?_))
    obtain ⟨rfl, lo3, hi3⟩ := r3
    refine g_op (i := 4) rfl rfl rfl (by kernel_rfl) rfl ⟨_, e2⟩ (fun w' ⟨I', e'⟩ => o_mov u0 rfl ⟨rfl, rfl⟩) (g_op (i := 5) rfl rfl rfl (by kernel_rfl) rfl ⟨_, e2⟩ (fun w' ⟨I', e'⟩ => o_mov (.int .i64 (i : Int)) rfl ⟨rfl, rfl⟩) (g_op (i := 6) rfl rfl rfl (by kernel_rfl) rfl ⟨_, e2⟩ (fun w' ⟨I', e'⟩ => o_subi rfl rfl (by omega) ⟨rfl, rfl⟩) (?_)))
    obtain ⟨a4, v4, p4, b4, r4, x4⟩ := at_index (j := (i - 1)) sl22 (e1.rep r_l) (by omega)
    refine g_op (i := 7) rfl rfl rfl (by kernel_rfl) rfl ⟨_, e2⟩ (fun w' ⟨I', e'⟩ => o_ix x4 rfl rfl (by omega) ⟨rfl, rfl⟩) (g_op (i := 8) rfl rfl rfl (by kernel_rfl) rfl ⟨_, e2⟩ (fun w' ⟨I', e'⟩ => o_load ty3 (p4.mono e' b4) (e'.rep r4) rfl ⟨rfl, rfl⟩) (?_))
    obtain ⟨rfl, lo4, hi4⟩ := r4
    refine g_op (i := 9) rfl rfl rfl (by kernel_rfl) rfl ⟨_, e2⟩ (fun w' ⟨I', e'⟩ => o_leqv rfl rfl ⟨rfl, rfl⟩) (g_done (by kernel_rfl) (wt_condp rfl (fun c45 => ?_) (fun c45 => ?_)))
    · refine wt_seq (wt_region (o_assign (wl_nil (?_))))
      exact ret_one Try.func14 rfl rfl (e1.trans e2) ⟨s2, congrArg Value.bool (by have hd := List.drop_eq_getElem_cons (l := l) (i := i - 1) (by omega); have hd2 := List.drop_eq_getElem_cons (l := l) (i := i) (by omega); rw [Nat.sub_add_cancel h1_0] at hd; rw [h1_2, hd, hd2, inc]; rw [decide_eq_false (by omega), Bool.false_and])⟩
    · refine wt_skip (wt_inBlock (wt_region (o_mov (.int .i64 (i : Int)) rfl (o_addi rfl rfl (by omega) (o_asg (.int .i64 ((i : Int) + 1)) rfl (wl_nil (?_)))))))
      exact ih1.out _ _ _ (by omega) ⟨_, _, i + 1, ov_self _ _ ⟨rfl, int_eq (a := ((i : Int) + 1)) (by omega), trivial⟩, rfl, (e1.trans e2), s2, by clear ih1; first | omega | simp_all, by clear ih1; omega, by clear ih1; have hd := List.drop_eq_getElem_cons (l := l) (i := i - 1) (by omega); have hd2 := List.drop_eq_getElem_cons (l := l) (i := i) (by omega); rw [Nat.sub_add_cancel h1_0] at hd; rw [h1_2, hd, hd2, inc]; rw [Nat.add_sub_cancel, hd2, decide_eq_true (by omega), Bool.true_and]⟩
  · refine wl_nil (wt_false rfl (wt_exit rfl (wt_seq (wt_region (o_assign (wl_nil (?_)))))))
    exact ret_one Try.func14 rfl rfl e1 ⟨s1, congrArg Value.bool (by rw [h1_2]; match hm : l.drop (i - 1) with | [] => rfl | [_] => rfl | x :: y :: r => have := congrArg List.length hm; simp at this; omega)⟩

theorem C_vset_Right {I : Reg} {w : World} {T : Own} {l : List (Int)} {u0 : Value} (s0 : St I w T) (r_l : rep I w u0 l) :
    Ret Try.prog 13 [u0] I w fun r I' w' => St I' w' T ∧ r = .bool (inc l) := by
  have l_l := rep_len r_l
  refine ret_of_wt Try.func13 rfl Try.ntmps13 rfl ?_
  refine wt_seq (wt_region (o_assign (wl_nil (wt_seq (wt_seq (wt_region (o_assign (wl_nil (wt_block (wt_loop (fun n f w1 => ∃ (g : Fr) (I1 : Reg) (i : Nat), f = ov [(0, u0), (3, .int .i64 (i : Int))] g ∧ n = (l.length - i) ∧ Ext I w I1 w1 ∧ St I1 w1 T ∧ (1 ≤ i) ∧ (l.length ≤ 1 ∨ i ≤ l.length) ∧ (inc l = inc (l.drop (i - 1)))) _ ⟨_, _, 1, ov_self _ _ ⟨rfl, rfl, trivial⟩, rfl, Ext.refl _ _, s0, by first | omega | simp, by omega, by simp⟩ ?_))))))))))
  rintro n f w1 ⟨g, I1, i, rfl, rfl, e1, s1, h1_0, h1_1, h1_2⟩ ih1
  refine wt_seq (wt_seq (wt_region (o_mov (.int .i64 (i : Int)) rfl (o_mov u0 rfl (o_len' (e1.rep r_l) rfl sl22 rfl (o_lss rfl rfl (fun c24 => ?_) (fun c24 => ?_)))))))
  · refine wl_nil (wt_true rfl (wt_skip (wt_seq (wt_block (wt_seq (wt_drawS s1 mixed rfl (fun w2 e2 s2 => ?_)))))))
    refine g_op (i := 0) rfl rfl rfl (by kernel_rfl) rfl ⟨_, e2⟩ (fun w' ⟨I', e'⟩ => o_mov u0 rfl ⟨rfl, rfl⟩) (g_op (i := 1) rfl rfl rfl (by kernel_rfl) rfl ⟨_, e2⟩ (fun w' ⟨I', e'⟩ => o_mov (.int .i64 (i : Int)) rfl ⟨rfl, rfl⟩) (g_op (i := 2) rfl rfl rfl (by kernel_rfl) rfl ⟨_, e2⟩ (fun w' ⟨I', e'⟩ => o_subi rfl rfl (by omega) ⟨rfl, rfl⟩) (?_)))
    obtain ⟨a3, v3, p3, b3, r3, x3⟩ := at_index (j := (i - 1)) sl22 (e1.rep r_l) (by omega)
    refine g_op (i := 3) rfl rfl rfl (by kernel_rfl) rfl ⟨_, e2⟩ (fun w' ⟨I', e'⟩ => o_ix x3 rfl rfl (by omega) ⟨rfl, rfl⟩) (g_op (i := 4) rfl rfl rfl (by kernel_rfl) rfl ⟨_, e2⟩ (fun w' ⟨I', e'⟩ => o_load ty3 (p3.mono e' b3) (e'.rep r3) rfl ⟨rfl, rfl⟩) (?_))
    obtain ⟨rfl, lo3, hi3⟩ := r3
    refine g_op (i := 5) rfl rfl rfl (by kernel_rfl) rfl ⟨_, e2⟩ (fun w' ⟨I', e'⟩ => o_mov u0 rfl ⟨rfl, rfl⟩) (g_op (i := 6) rfl rfl rfl (by kernel_rfl) rfl ⟨_, e2⟩ (fun w' ⟨I', e'⟩ => o_mov (.int .i64 (i : Int)) rfl ⟨rfl, rfl⟩) (?_))
    obtain ⟨a4, v4, p4, b4, r4, x4⟩ := at_index (j := i) sl22 (e1.rep r_l) (by omega)
    refine g_op (i := 7) rfl rfl rfl (by kernel_rfl) rfl ⟨_, e2⟩ (fun w' ⟨I', e'⟩ => o_ix x4 rfl rfl rfl ⟨rfl, rfl⟩) (g_op (i := 8) rfl rfl rfl (by kernel_rfl) rfl ⟨_, e2⟩ (fun w' ⟨I', e'⟩ => o_load ty3 (p4.mono e' b4) (e'.rep r4) rfl ⟨rfl, rfl⟩) (?_))
    obtain ⟨rfl, lo4, hi4⟩ := r4
    refine g_op (i := 9) rfl rfl rfl (by kernel_rfl) rfl ⟨_, e2⟩ (fun w' ⟨I', e'⟩ => o_geqv rfl rfl ⟨rfl, rfl⟩) (g_done (by kernel_rfl) (wt_condp rfl (fun c25 => ?_) (fun c25 => ?_)))
    · refine wt_seq (wt_region (o_assign (wl_nil (?_))))
      exact ret_one Try.func13 rfl rfl (e1.trans e2) ⟨s2, congrArg Value.bool (by have hd := List.drop_eq_getElem_cons (l := l) (i := i - 1) (by omega); have hd2 := List.drop_eq_getElem_cons (l := l) (i := i) (by omega); rw [Nat.sub_add_cancel h1_0] at hd; rw [h1_2, hd, hd2, inc]; rw [decide_eq_false (by omega), Bool.false_and])⟩
    · refine wt_skip (wt_inBlock (wt_region (o_mov (.int .i64 (i : Int)) rfl (o_addi rfl rfl (by omega) (o_asg (.int .i64 ((i : Int) + 1)) rfl (wl_nil (?_)))))))
      exact ih1.out _ _ _ (by omega) ⟨_, _, i + 1, ov_self _ _ ⟨rfl, int_eq (a := ((i : Int) + 1)) (by omega), trivial⟩, rfl, (e1.trans e2), s2, by clear ih1; first | omega | simp_all, by clear ih1; omega, by clear ih1; have hd := List.drop_eq_getElem_cons (l := l) (i := i - 1) (by omega); have hd2 := List.drop_eq_getElem_cons (l := l) (i := i) (by omega); rw [Nat.sub_add_cancel h1_0] at hd; rw [h1_2, hd, hd2, inc]; rw [Nat.add_sub_cancel, hd2, decide_eq_true (by omega), Bool.true_and]⟩
  · refine wl_nil (wt_false rfl (wt_exit rfl (wt_seq (wt_region (o_assign (wl_nil (?_)))))))
    exact ret_one Try.func13 rfl rfl e1 ⟨s1, congrArg Value.bool (by rw [h1_2]; match hm : l.drop (i - 1) with | [] => rfl | [_] => rfl | x :: y :: r => have := congrArg List.length hm; simp at this; omega)⟩

theorem C_vset_Of {I : Reg} {w : World} {T : Own} {l : List (Int)} {u0 : Value} (s0 : St I w T) (r_l : rep I w u0 l) (q0 : l.length ≤ 1000000) :
    Ret Try.prog 10 [u0] I w fun r I' w' => St I' w' T ∧ rep I' w' r (setOf l) := by
  have l_l := rep_len r_l
  refine ret_of_wt Try.func10 rfl Try.ntmps10 rfl ?_
  refine wt_seq (wt_region (o_assign (wl_nil (wt_seq (wt_region (o_mov u0 rfl (o_len' r_l rfl sl22 rfl (o_make0 (α := Int) (n := l.length) sl22 s0 rfl rfl rfl (by omega) (by omega) (fun v1 A1 w1 e1 s1 o1 => ?_)))))))))
  refine o_asg v1 rfl (wl_nil (wt_seq (wt_seq (wt_region (o_mov u0 rfl (o_len' (e1.rep r_l) rfl sl22 rfl (o_move (wl_nil (wt_block (wt_loop (fun n f w2 => ∃ (g : Fr) (I2 : Reg) (k : Nat) (out : List Int) (A3 : Own) (v3 : Value), f = ov [(3, v3), (10, u0), (11, .int .i64 (l.length : Int)), (12, .int .i64 (k : Int))] g ∧ n = (l.length - k) ∧ Ext I w1 I2 w2 ∧ St I2 w2 (A3 ++ T) ∧ OwnSl I2 w2 3 A3 v3 out ∧ (k ≤ l.length) ∧ (out.length ≤ k) ∧ ((l.drop k).foldl (fun a v => ins v a) out = setOf l) ∧ (inc out = true)) _ ⟨_, _, 0, [], A1, v1, ov_self _ _ ⟨rfl, rfl, rfl, rfl, trivial⟩, rfl, Ext.refl _ _, s1, (OwnSl.cast (by simp) o1), by first | omega | simp, by first | omega | simp, by simp [setOf], by rfl⟩ ?_))))))))))
  rintro n f w2 ⟨g, I2, k, out, A3, v3, rfl, rfl, e2, s2, o3, h2_0, h2_1, h2_2, h2_3⟩ ih2
  have l3 := o3.bd
  refine wt_seq (wt_region (o_lss rfl rfl (fun c7 => ?_) (fun c7 => ?_)))
  · refine wl_nil (wt_seq (wt_true rfl (wt_skip (wt_seq (wt_block (wt_seq (wt_region (o_index (j := k) sl22 (e2.rep (e1.rep r_l)) rfl rfl rfl (by omega) (fun a4 v4 p4 b4 r4 => ?_)))))))))
    refine o_load ty3 p4 r4 rfl (?_)
    obtain ⟨rfl, lo4, hi4⟩ := r4
    refine o_asg (.int .i64 (l[k])) rfl (wl_nil (wt_seq (wt_region (o_mov v3 rfl (o_lenO o3 rfl sl22 rfl (o_asg (.int .i64 (out.length : Int)) rfl (wl_nil (wt_seq (wt_block (wt_loop (fun n f w5 => ∃ (g : Fr) (I5 : Reg) (i : Nat), f = ov [(3, v3), (5, .int .i64 (l[k])), (6, .int .i64 (i : Int)), (10, u0), (11, .int .i64 (l.length : Int)), (12, .int .i64 (k : Int))] g ∧ n = (1 + i) ∧ Ext I2 w2 I5 w5 ∧ St I5 w5 (A3 ++ T) ∧ (i ≤ out.length) ∧ (∀ x ∈ out.drop i, l[k] < x)) _ ⟨_, _, out.length, ov_self _ _ ⟨rfl, rfl, rfl, rfl, rfl, rfl, trivial⟩, rfl, Ext.refl _ _, s2, by omega, by simp⟩ ?_))))))))))
    rintro n f w5 ⟨g, I5, i, rfl, rfl, e5, s5, h5_0, h5_1⟩ ih5
    refine wt_seq (wt_seq (wt_region (o_mov (.int .i64 (i : Int)) rfl (o_gtr rfl rfl (fun c9 => ?_) (fun c9 => ?_)))))
    · refine o_mov (.bool true) rfl (wl_yes rfl (o_mov v3 rfl (wl_yes rfl (o_mov (.int .i64 (i : Int)) rfl (wl_yes rfl (o_subi rfl rfl (by omega) (wl_yes rfl (?_))))))))
      obtain ⟨a6, v6, t6, p6, r6, x6⟩ := OwnSl.at (j := (i - 1)) (o3.mono e5) s5 (by omega) sl22
      refine o_ix x6 rfl rfl (by omega) (wl_yes rfl (o_load ty3 p6 r6 rfl (?_)))
      obtain ⟨rfl, lo6, hi6⟩ := r6
      refine wl_yes rfl (o_mov (.int .i64 (l[k])) rfl (wl_yes rfl (o_gtr rfl rfl (fun c9a => ?_) (fun c9a => ?_))))
      · refine o_pickt (.bool true) rfl rfl (wl_nil (wt_true rfl (wt_skip (wt_block (wt_region (o_mov (.int .i64 (i : Int)) rfl (o_subi rfl rfl (by omega) (o_asg (.int .i64 ((i : Int) - 1)) rfl (wl_nil (wt_inBlock (?_)))))))))))
        exact ih5.out _ _ _ (by omega) ⟨_, _, i - 1, ov_self _ _ ⟨rfl, rfl, int_eq (a := ((i : Int) - 1)) (by omega), rfl, rfl, rfl, trivial⟩, rfl, e5, s5, by clear ih2 ih5; omega, by clear ih2 ih5; intro x hx; rw [List.drop_eq_getElem_cons (l := out) (i := i - 1) (by omega), Nat.sub_add_cancel (by omega)] at hx; exact (List.mem_cons.1 hx).elim (fun e => e ▸ c9a) (h5_1 x)⟩
      · refine o_pickt (.bool false) rfl rfl (wl_nil (wt_false rfl (wt_exit rfl (wt_seq (wt_seq (wt_region (o_mov (.int .i64 (i : Int)) rfl (o_gtr rfl rfl (fun c12 => ?_) (fun c12 => ?_)))))))))
        · refine o_mov (.bool true) rfl (wl_yes rfl (o_mov v3 rfl (wl_yes rfl (o_mov (.int .i64 (i : Int)) rfl (wl_yes rfl (o_subi rfl rfl (by omega) (wl_yes rfl (?_))))))))
          obtain ⟨a7, v7, t7, p7, r7, x7⟩ := OwnSl.at (j := (i - 1)) (o3.mono e5) s5 (by omega) sl22
          refine o_ix x7 rfl rfl (by omega) (wl_yes rfl (o_load ty3 p7 r7 rfl (?_)))
          obtain ⟨rfl, lo7, hi7⟩ := r7
          refine wl_yes rfl (o_mov (.int .i64 (l[k])) rfl (wl_yes rfl (o_eql rfl rfl (fun c12a => ?_) (fun c12a => ?_))))
          · refine o_pickt (.bool true) rfl rfl (wl_nil (wt_true rfl (wt_exit rfl (wt_region (o_addi rfl rfl (by omega) (o_mov (.int .i64 ((k : Int) + 1)) rfl (wl_nil (?_))))))))
            exact ih2.out _ _ _ (by omega) ⟨_, _, k + 1, out, A3, v3, ov_self _ _ ⟨rfl, rfl, rfl, int_eq (a := ((k : Int) + 1)) (by omega), trivial⟩, rfl, (e2.trans e5), s5, (OwnSl.cast (by clear ih2 ih5; rfl) (o3.mono e5)), by clear ih2 ih5; omega, by clear ih2 ih5; first | omega | (simp; omega), by clear ih2 ih5; first | (exfalso; omega) | (have hd := List.drop_eq_getElem_cons (l := l) (i := k) (by omega); rw [← h2_2, hd, List.foldl_cons, ins_mem h2_3 (by rw [← c12a]; exact List.getElem_mem _)]) | (have hd := List.drop_eq_getElem_cons (l := l) (i := k) (by omega); rw [← h2_2, hd, List.foldl_cons, shift_ins (by omega), ins_at (i := i) (by omega) (take_lt h2_3 (by omega) (fun h hp => by omega)) h5_1]), by clear ih2 ih5; first | (exfalso; omega) | exact h2_3 | (rw [shift_ins (by omega), ← ins_at (i := i) (by omega) (take_lt h2_3 (by omega) (fun h hp => by omega)) h5_1]; exact inc_ins h2_3)⟩
          · refine o_pickt (.bool false) rfl rfl (wl_nil (wt_false rfl (wt_skip (wt_seq (wt_region (o_mov v3 rfl (o_buildI (xs := ([0] : List (Int))) (vs := [.int .i64 0]) sl22 s5 rfl ⟨⟨rfl, by omega, by omega⟩, trivial⟩ rfl rfl (fun v8 I8 w8 e8 s8 r8 => ?_))))))))
            refine o_append sl22 s8 ((o3.mono e5).mono e8) r8 rfl rfl (by simp; omega) (by simp; omega) (fun v9 A9 w9 e9 s9 o9 => ?_)
            have l9 := o9.bd
            refine o_asg v9 rfl (wl_nil (wt_seq (wt_drawS s9 mixed rfl (fun w10 e10 s10 => ?_))))
            refine g_op (i := 0) rfl rfl rfl (by kernel_rfl) rfl ⟨_, e10⟩ (fun w' ⟨I', e'⟩ => o_mov v9 rfl ⟨rfl, rfl⟩) (g_op (i := 1) rfl rfl rfl (by kernel_rfl) rfl ⟨_, e10⟩ (fun w' ⟨I', e'⟩ => o_mov (.int .i64 (i : Int)) rfl ⟨rfl, rfl⟩) (g_op (i := 2) rfl rfl rfl (by kernel_rfl) rfl ⟨_, e10⟩ (fun w' ⟨I', e'⟩ => o_addi rfl rfl (by omega) ⟨rfl, rfl⟩) (g_op (i := 3) rfl rfl rfl (by kernel_rfl) rfl ⟨_, e10⟩ (fun w' ⟨I', e'⟩ => o_subO (j := (i + 1)) sl22 (o9.mono e') (by simp; omega) rfl rfl (by omega) ⟨rfl, rfl⟩) (g_op (i := 4) rfl rfl rfl (by kernel_rfl) rfl ⟨_, e10⟩ (fun w' ⟨I', e'⟩ => o_mov v9 rfl ⟨rfl, rfl⟩) (g_op (i := 5) rfl rfl rfl (by kernel_rfl) rfl ⟨_, e10⟩ (fun w' ⟨I', e'⟩ => o_mov (.int .i64 (i : Int)) rfl ⟨rfl, rfl⟩) (g_op (i := 6) rfl rfl rfl (by kernel_rfl) rfl ⟨_, e10⟩ (fun w' ⟨I', e'⟩ => o_subO (j := i) sl22 (o9.mono e') (by simp; omega) rfl rfl rfl ⟨rfl, rfl⟩) (g_one (i := 7) rfl (by kernel_rfl) rfl (o_copyO (i := i) sl22 (o9.mono e10) s10 (by simp; omega) rfl rfl (fun n11 A11 w11 e11 s11 o11 => ?_)))))))))
            refine wl_nil ⟨⟨_, (e10.trans e11)⟩, ?_⟩
            refine g_done (by kernel_rfl) (wt_region (o_mov v9 rfl (o_mov (.int .i64 (i : Int)) rfl (o_mov (.int .i64 (l[k])) rfl (?_)))))
            obtain ⟨a12, v12, t12, p12, r12, x12⟩ := OwnSl.at (j := i) o11 s11 (by simp; omega) sl22
            refine o_ix x12 rfl rfl rfl (o_storeSl o11 s11 t12 (by simp; omega) ⟨rfl, by omega, by omega⟩ ty3 rfl rfl (fun A13 w13 e13 s13 o13 => ?_))
            refine wl_nil (wt_inBlock (wt_region (o_addi rfl rfl (by omega) (o_mov (.int .i64 ((k : Int) + 1)) rfl (wl_nil (?_))))))
            exact ih2.out _ _ _ (by omega) ⟨_, _, k + 1, (((out ++ ([0] : List (Int))).take (i + 1) ++ ((out ++ ([0] : List (Int))).drop i).take ((out ++ ([0] : List (Int))).length - (i + 1))).set i (l[k])), A13, v9, ov_self _ _ ⟨rfl, rfl, rfl, int_eq (a := ((k : Int) + 1)) (by omega), trivial⟩, rfl, ((((((e2.trans e5).trans e8).trans e9).trans e10).trans e11).trans e13), s13, (OwnSl.cast (by clear ih2 ih5; rfl) o13), by clear ih2 ih5; omega, by clear ih2 ih5; first | omega | (simp; omega), by clear ih2 ih5; first | (exfalso; omega) | (have hd := List.drop_eq_getElem_cons (l := l) (i := k) (by omega); rw [← h2_2, hd, List.foldl_cons, ins_mem h2_3 (by rw [← c12a]; exact List.getElem_mem _)]) | (have hd := List.drop_eq_getElem_cons (l := l) (i := k) (by omega); rw [← h2_2, hd, List.foldl_cons, shift_ins (by omega), ins_at (i := i) (by omega) (take_lt h2_3 (by omega) (fun h hp => by omega)) h5_1]), by clear ih2 ih5; first | (exfalso; omega) | exact h2_3 | (rw [shift_ins (by omega), ← ins_at (i := i) (by omega) (take_lt h2_3 (by omega) (fun h hp => by omega)) h5_1]; exact inc_ins h2_3)⟩
        · refine o_mov (.bool false) rfl (wl_no rfl (wl_no rfl (wl_no rfl (wl_no rfl (wl_no rfl (wl_no rfl (wl_no rfl (o_pick0 rfl (wl_nil (wt_false rfl (wt_skip (wt_seq (wt_region (o_mov v3 rfl (o_buildI (xs := ([0] : List (Int))) (vs := [.int .i64 0]) sl22 s5 rfl ⟨⟨rfl, by omega, by omega⟩, trivial⟩ rfl rfl (fun v14 I14 w14 e14 s14 r14 => ?_))))))))))))))))
          refine o_append sl22 s14 ((o3.mono e5).mono e14) r14 rfl rfl (by simp; omega) (by simp; omega) (fun v15 A15 w15 e15 s15 o15 => ?_)
          have l15 := o15.bd
          refine o_asg v15 rfl (wl_nil (wt_seq (wt_drawS s15 mixed rfl (fun w16 e16 s16 => ?_))))
          refine g_op (i := 0) rfl rfl rfl (by kernel_rfl) rfl ⟨_, e16⟩ (fun w' ⟨I', e'⟩ => o_mov v15 rfl ⟨rfl, rfl⟩) (g_op (i := 1) rfl rfl rfl (by kernel_rfl) rfl ⟨_, e16⟩ (fun w' ⟨I', e'⟩ => o_mov (.int .i64 (i : Int)) rfl ⟨rfl, rfl⟩) (g_op (i := 2) rfl rfl rfl (by kernel_rfl) rfl ⟨_, e16⟩ (fun w' ⟨I', e'⟩ => o_addi rfl rfl (by omega) ⟨rfl, rfl⟩) (g_op (i := 3) rfl rfl rfl (by kernel_rfl) rfl ⟨_, e16⟩ (fun w' ⟨I', e'⟩ => o_subO (j := (i + 1)) sl22 (o15.mono e') (by simp; omega) rfl rfl (by omega) ⟨rfl, rfl⟩) (g_op (i := 4) rfl rfl rfl (by kernel_rfl) rfl ⟨_, e16⟩ (fun w' ⟨I', e'⟩ => o_mov v15 rfl ⟨rfl, rfl⟩) (g_op (i := 5) rfl rfl rfl (by kernel_rfl) rfl ⟨_, e16⟩ (fun w' ⟨I', e'⟩ => o_mov (.int .i64 (i : Int)) rfl ⟨rfl, rfl⟩) (g_op (i := 6) rfl rfl rfl (by kernel_rfl) rfl ⟨_, e16⟩ (fun w' ⟨I', e'⟩ => o_subO (j := i) sl22 (o15.mono e') (by simp; omega) rfl rfl rfl ⟨rfl, rfl⟩) (g_one (i := 7) rfl (by kernel_rfl) rfl (o_copyO (i := i) sl22 (o15.mono e16) s16 (by simp; omega) rfl rfl (fun n17 A17 w17 e17 s17 o17 => ?_)))))))))
          refine wl_nil ⟨⟨_, (e16.trans e17)⟩, ?_⟩
          refine g_done (by kernel_rfl) (wt_region (o_mov v15 rfl (o_mov (.int .i64 (i : Int)) rfl (o_mov (.int .i64 (l[k])) rfl (?_)))))
          obtain ⟨a18, v18, t18, p18, r18, x18⟩ := OwnSl.at (j := i) o17 s17 (by simp; omega) sl22
          refine o_ix x18 rfl rfl rfl (o_storeSl o17 s17 t18 (by simp; omega) ⟨rfl, by omega, by omega⟩ ty3 rfl rfl (fun A19 w19 e19 s19 o19 => ?_))
          refine wl_nil (wt_inBlock (wt_region (o_addi rfl rfl (by omega) (o_mov (.int .i64 ((k : Int) + 1)) rfl (wl_nil (?_))))))
          exact ih2.out _ _ _ (by omega) ⟨_, _, k + 1, (((out ++ ([0] : List (Int))).take (i + 1) ++ ((out ++ ([0] : List (Int))).drop i).take ((out ++ ([0] : List (Int))).length - (i + 1))).set i (l[k])), A19, v15, ov_self _ _ ⟨rfl, rfl, rfl, int_eq (a := ((k : Int) + 1)) (by omega), trivial⟩, rfl, ((((((e2.trans e5).trans e14).trans e15).trans e16).trans e17).trans e19), s19, (OwnSl.cast (by clear ih2 ih5; rfl) o19), by clear ih2 ih5; omega, by clear ih2 ih5; first | omega | (simp; omega), by clear ih2 ih5; first | (exfalso; omega) | (have hd := List.drop_eq_getElem_cons (l := l) (i := k) (by omega); rw [← h2_2, hd, List.foldl_cons, ins_mem h2_3 (by rw [← c12a]; exact List.getElem_mem _)]) | (have hd := List.drop_eq_getElem_cons (l := l) (i := k) (by omega); rw [← h2_2, hd, List.foldl_cons, shift_ins (by omega), ins_at (i := i) (by omega) (take_lt h2_3 (by omega) (fun h hp => by omega)) h5_1]), by clear ih2 ih5; first | (exfalso; omega) | exact h2_3 | (rw [shift_ins (by omega), ← ins_at (i := i) (by omega) (take_lt h2_3 (by omega) (fun h hp => by omega)) h5_1]; exact inc_ins h2_3)⟩
    · refine o_mov (.bool false) rfl (wl_no rfl (wl_no rfl (wl_no rfl (wl_no rfl (wl_no rfl (wl_no rfl (wl_no rfl (o_pick0 rfl (wl_nil (wt_false rfl (wt_exit rfl (wt_seq (wt_seq (wt_region (o_mov (.int .i64 (i : Int)) rfl (o_gtr rfl rfl (fun c12 => ?_) (fun c12 => ?_)))))))))))))))))
      · refine o_mov (.bool true) rfl (wl_yes rfl (o_mov v3 rfl (wl_yes rfl (o_mov (.int .i64 (i : Int)) rfl (wl_yes rfl (o_subi rfl rfl (by omega) (wl_yes rfl (?_))))))))
        obtain ⟨a20, v20, t20, p20, r20, x20⟩ := OwnSl.at (j := (i - 1)) (o3.mono e5) s5 (by omega) sl22
        refine o_ix x20 rfl rfl (by omega) (wl_yes rfl (o_load ty3 p20 r20 rfl (?_)))
        obtain ⟨rfl, lo20, hi20⟩ := r20
        refine wl_yes rfl (o_mov (.int .i64 (l[k])) rfl (wl_yes rfl (o_eql rfl rfl (fun c12a => ?_) (fun c12a => ?_))))
        · refine o_pickt (.bool true) rfl rfl (wl_nil (wt_true rfl (wt_exit rfl (wt_region (o_addi rfl rfl (by omega) (o_mov (.int .i64 ((k : Int) + 1)) rfl (wl_nil (?_))))))))
          exact ih2.out _ _ _ (by omega) ⟨_, _, k + 1, out, A3, v3, ov_self _ _ ⟨rfl, rfl, rfl, int_eq (a := ((k : Int) + 1)) (by omega), trivial⟩, rfl, (e2.trans e5), s5, (OwnSl.cast (by clear ih2 ih5; rfl) (o3.mono e5)), by clear ih2 ih5; omega, by clear ih2 ih5; first | omega | (simp; omega), by clear ih2 ih5; first | (exfalso; omega) | (have hd := List.drop_eq_getElem_cons (l := l) (i := k) (by omega); rw [← h2_2, hd, List.foldl_cons, ins_mem h2_3 (by rw [← c12a]; exact List.getElem_mem _)]) | (have hd := List.drop_eq_getElem_cons (l := l) (i := k) (by omega); rw [← h2_2, hd, List.foldl_cons, shift_ins (by omega), ins_at (i := i) (by omega) (take_lt h2_3 (by omega) (fun h hp => by omega)) h5_1]), by clear ih2 ih5; first | (exfalso; omega) | exact h2_3 | (rw [shift_ins (by omega), ← ins_at (i := i) (by omega) (take_lt h2_3 (by omega) (fun h hp => by omega)) h5_1]; exact inc_ins h2_3)⟩
        · refine o_pickt (.bool false) rfl rfl (wl_nil (wt_false rfl (wt_skip (wt_seq (wt_region (o_mov v3 rfl (o_buildI (xs := ([0] : List (Int))) (vs := [.int .i64 0]) sl22 s5 rfl ⟨⟨rfl, by omega, by omega⟩, trivial⟩ rfl rfl (fun v21 I21 w21 e21 s21 r21 => ?_))))))))
          refine o_append sl22 s21 ((o3.mono e5).mono e21) r21 rfl rfl (by simp; omega) (by simp; omega) (fun v22 A22 w22 e22 s22 o22 => ?_)
          have l22 := o22.bd
          refine o_asg v22 rfl (wl_nil (wt_seq (wt_drawS s22 mixed rfl (fun w23 e23 s23 => ?_))))
          refine g_op (i := 0) rfl rfl rfl (by kernel_rfl) rfl ⟨_, e23⟩ (fun w' ⟨I', e'⟩ => o_mov v22 rfl ⟨rfl, rfl⟩) (g_op (i := 1) rfl rfl rfl (by kernel_rfl) rfl ⟨_, e23⟩ (fun w' ⟨I', e'⟩ => o_mov (.int .i64 (i : Int)) rfl ⟨rfl, rfl⟩) (g_op (i := 2) rfl rfl rfl (by kernel_rfl) rfl ⟨_, e23⟩ (fun w' ⟨I', e'⟩ => o_addi rfl rfl (by omega) ⟨rfl, rfl⟩) (g_op (i := 3) rfl rfl rfl (by kernel_rfl) rfl ⟨_, e23⟩ (fun w' ⟨I', e'⟩ => o_subO (j := (i + 1)) sl22 (o22.mono e') (by simp; omega) rfl rfl (by omega) ⟨rfl, rfl⟩) (g_op (i := 4) rfl rfl rfl (by kernel_rfl) rfl ⟨_, e23⟩ (fun w' ⟨I', e'⟩ => o_mov v22 rfl ⟨rfl, rfl⟩) (g_op (i := 5) rfl rfl rfl (by kernel_rfl) rfl ⟨_, e23⟩ (fun w' ⟨I', e'⟩ => o_mov (.int .i64 (i : Int)) rfl ⟨rfl, rfl⟩) (g_op (i := 6) rfl rfl rfl (by kernel_rfl) rfl ⟨_, e23⟩ (fun w' ⟨I', e'⟩ => o_subO (j := i) sl22 (o22.mono e') (by simp; omega) rfl rfl rfl ⟨rfl, rfl⟩) (g_one (i := 7) rfl (by kernel_rfl) rfl (o_copyO (i := i) sl22 (o22.mono e23) s23 (by simp; omega) rfl rfl (fun n24 A24 w24 e24 s24 o24 => ?_)))))))))
          refine wl_nil ⟨⟨_, (e23.trans e24)⟩, ?_⟩
          refine g_done (by kernel_rfl) (wt_region (o_mov v22 rfl (o_mov (.int .i64 (i : Int)) rfl (o_mov (.int .i64 (l[k])) rfl (?_)))))
          obtain ⟨a25, v25, t25, p25, r25, x25⟩ := OwnSl.at (j := i) o24 s24 (by simp; omega) sl22
          refine o_ix x25 rfl rfl rfl (o_storeSl o24 s24 t25 (by simp; omega) ⟨rfl, by omega, by omega⟩ ty3 rfl rfl (fun A26 w26 e26 s26 o26 => ?_))
          refine wl_nil (wt_inBlock (wt_region (o_addi rfl rfl (by omega) (o_mov (.int .i64 ((k : Int) + 1)) rfl (wl_nil (?_))))))
          exact ih2.out _ _ _ (by omega) ⟨_, _, k + 1, (((out ++ ([0] : List (Int))).take (i + 1) ++ ((out ++ ([0] : List (Int))).drop i).take ((out ++ ([0] : List (Int))).length - (i + 1))).set i (l[k])), A26, v22, ov_self _ _ ⟨rfl, rfl, rfl, int_eq (a := ((k : Int) + 1)) (by omega), trivial⟩, rfl, ((((((e2.trans e5).trans e21).trans e22).trans e23).trans e24).trans e26), s26, (OwnSl.cast (by clear ih2 ih5; rfl) o26), by clear ih2 ih5; omega, by clear ih2 ih5; first | omega | (simp; omega), by clear ih2 ih5; first | (exfalso; omega) | (have hd := List.drop_eq_getElem_cons (l := l) (i := k) (by omega); rw [← h2_2, hd, List.foldl_cons, ins_mem h2_3 (by rw [← c12a]; exact List.getElem_mem _)]) | (have hd := List.drop_eq_getElem_cons (l := l) (i := k) (by omega); rw [← h2_2, hd, List.foldl_cons, shift_ins (by omega), ins_at (i := i) (by omega) (take_lt h2_3 (by omega) (fun h hp => by omega)) h5_1]), by clear ih2 ih5; first | (exfalso; omega) | exact h2_3 | (rw [shift_ins (by omega), ← ins_at (i := i) (by omega) (take_lt h2_3 (by omega) (fun h hp => by omega)) h5_1]; exact inc_ins h2_3)⟩
      · refine o_mov (.bool false) rfl (wl_no rfl (wl_no rfl (wl_no rfl (wl_no rfl (wl_no rfl (wl_no rfl (wl_no rfl (o_pick0 rfl (wl_nil (wt_false rfl (wt_skip (wt_seq (wt_region (o_mov v3 rfl (o_buildI (xs := ([0] : List (Int))) (vs := [.int .i64 0]) sl22 s5 rfl ⟨⟨rfl, by omega, by omega⟩, trivial⟩ rfl rfl (fun v27 I27 w27 e27 s27 r27 => ?_))))))))))))))))
        refine o_append sl22 s27 ((o3.mono e5).mono e27) r27 rfl rfl (by simp; omega) (by simp; omega) (fun v28 A28 w28 e28 s28 o28 => ?_)
        have l28 := o28.bd
        refine o_asg v28 rfl (wl_nil (wt_seq (wt_drawS s28 mixed rfl (fun w29 e29 s29 => ?_))))
        refine g_op (i := 0) rfl rfl rfl (by kernel_rfl) rfl ⟨_, e29⟩ (fun w' ⟨I', e'⟩ => o_mov v28 rfl ⟨rfl, rfl⟩) (g_op (i := 1) rfl rfl rfl (by kernel_rfl) rfl ⟨_, e29⟩ (fun w' ⟨I', e'⟩ => o_mov (.int .i64 (i : Int)) rfl ⟨rfl, rfl⟩) (g_op (i := 2) rfl rfl rfl (by kernel_rfl) rfl ⟨_, e29⟩ (fun w' ⟨I', e'⟩ => o_addi rfl rfl (by omega) ⟨rfl, rfl⟩) (g_op (i := 3) rfl rfl rfl (by kernel_rfl) rfl ⟨_, e29⟩ (fun w' ⟨I', e'⟩ => o_subO (j := (i + 1)) sl22 (o28.mono e') (by simp; omega) rfl rfl (by omega) ⟨rfl, rfl⟩) (g_op (i := 4) rfl rfl rfl (by kernel_rfl) rfl ⟨_, e29⟩ (fun w' ⟨I', e'⟩ => o_mov v28 rfl ⟨rfl, rfl⟩) (g_op (i := 5) rfl rfl rfl (by kernel_rfl) rfl ⟨_, e29⟩ (fun w' ⟨I', e'⟩ => o_mov (.int .i64 (i : Int)) rfl ⟨rfl, rfl⟩) (g_op (i := 6) rfl rfl rfl (by kernel_rfl) rfl ⟨_, e29⟩ (fun w' ⟨I', e'⟩ => o_subO (j := i) sl22 (o28.mono e') (by simp; omega) rfl rfl rfl ⟨rfl, rfl⟩) (g_one (i := 7) rfl (by kernel_rfl) rfl (o_copyO (i := i) sl22 (o28.mono e29) s29 (by simp; omega) rfl rfl (fun n30 A30 w30 e30 s30 o30 => ?_)))))))))
        refine wl_nil ⟨⟨_, (e29.trans e30)⟩, ?_⟩
        refine g_done (by kernel_rfl) (wt_region (o_mov v28 rfl (o_mov (.int .i64 (i : Int)) rfl (o_mov (.int .i64 (l[k])) rfl (?_)))))
        obtain ⟨a31, v31, t31, p31, r31, x31⟩ := OwnSl.at (j := i) o30 s30 (by simp; omega) sl22
        refine o_ix x31 rfl rfl rfl (o_storeSl o30 s30 t31 (by simp; omega) ⟨rfl, by omega, by omega⟩ ty3 rfl rfl (fun A32 w32 e32 s32 o32 => ?_))
        refine wl_nil (wt_inBlock (wt_region (o_addi rfl rfl (by omega) (o_mov (.int .i64 ((k : Int) + 1)) rfl (wl_nil (?_))))))
        exact ih2.out _ _ _ (by omega) ⟨_, _, k + 1, (((out ++ ([0] : List (Int))).take (i + 1) ++ ((out ++ ([0] : List (Int))).drop i).take ((out ++ ([0] : List (Int))).length - (i + 1))).set i (l[k])), A32, v28, ov_self _ _ ⟨rfl, rfl, rfl, int_eq (a := ((k : Int) + 1)) (by omega), trivial⟩, rfl, ((((((e2.trans e5).trans e27).trans e28).trans e29).trans e30).trans e32), s32, (OwnSl.cast (by clear ih2 ih5; rfl) o32), by clear ih2 ih5; omega, by clear ih2 ih5; first | omega | (simp; omega), by clear ih2 ih5; first | (exfalso; omega) | (have hd := List.drop_eq_getElem_cons (l := l) (i := k) (by omega); rw [← h2_2, hd, List.foldl_cons, ins_mem h2_3 (by rw [← c12a]; exact List.getElem_mem _)]) | (have hd := List.drop_eq_getElem_cons (l := l) (i := k) (by omega); rw [← h2_2, hd, List.foldl_cons, shift_ins (by omega), ins_at (i := i) (by omega) (take_lt h2_3 (by omega) (fun h hp => by omega)) h5_1]), by clear ih2 ih5; first | (exfalso; omega) | exact h2_3 | (rw [shift_ins (by omega), ← ins_at (i := i) (by omega) (take_lt h2_3 (by omega) (fun h hp => by omega)) h5_1]; exact inc_ins h2_3)⟩
  · refine wl_nil (wt_seq (wt_false rfl (wt_exit rfl (wt_seq (wt_region (o_mov v3 rfl (o_mov v3 rfl (o_lenO o3 rfl sl22 rfl (o_mov v3 rfl (o_lenO o3 rfl sl22 rfl (?_)))))))))))
    obtain ⟨I34, e34, s34, r34⟩ := OwnSl.freeze o3 s2
    refine o_slice_full sl22 r34 rfl rfl rfl rfl rfl (fun v33 r33 => ?_)
    refine o_asg v33 rfl (wl_nil (?_))
    exact ret_one Try.func10 rfl rfl ((e1.trans e2).trans e34) ⟨s34, rep_cast (by have hd : l.drop k = [] := List.drop_eq_nil_of_le (by omega); rw [← h2_2, hd]; clear hd h2_2; rfl) r33⟩

theorem C_vset_Union {I : Reg} {w : World} {T : Own} {l : List (List (Int))} {u0 : Value} (s0 : St I w T) (r_l : rep I w u0 l) (q0 : l.flatten.length ≤ 1000000) :
    Ret Try.prog 18 [u0] I w fun r I' w' => St I' w' T ∧ rep I' w' r (setOf l.flatten) := by
  have l_l := rep_len r_l
  refine ret_of_wt Try.func18 rfl Try.ntmps18 rfl ?_
  refine wt_seq (wt_region (o_assign (wl_nil (wt_seq (wt_region (o_assign (wl_nil (wt_seq (wt_seq (wt_region (o_mov u0 rfl (o_len' r_l rfl sl29 rfl (o_move (wl_nil (wt_block (wt_loop (fun n f w1 => ∃ (g : Fr) (I1 : Reg) (i : Nat) (out : List Int) (A2 : Own) (v2 : Value), f = ov [(3, v2), (6, u0), (7, .int .i64 (l.length : Int)), (8, .int .i64 (i : Int))] g ∧ n = (l.length - i) ∧ Ext I w I1 w1 ∧ St I1 w1 (A2 ++ T) ∧ OwnSl I1 w1 3 A2 v2 out ∧ (i ≤ l.length) ∧ (out ++ (l.drop i).flatten = l.flatten)) _ ⟨_, _, 0, [], [], .slice none 0 0, ov_self _ _ ⟨rfl, rfl, rfl, rfl, trivial⟩, rfl, Ext.refl _ _, s0, (OwnSl.cast (by simp) OwnSl.nil), by first | omega | simp, by simp⟩ ?_))))))))))))))))
  rintro n f w1 ⟨g, I1, i, out, A2, v2, rfl, rfl, e1, s1, o2, h1_0, h1_1⟩ ih1
  have l2 := o2.bd
  refine wt_seq (wt_region (o_lss rfl rfl (fun c45 => ?_) (fun c45 => ?_)))
  · refine wl_nil (wt_seq (wt_true rfl (wt_skip (wt_seq (wt_block (wt_seq (wt_region (o_index (j := i) sl29 (e1.rep r_l) rfl rfl rfl (by omega) (fun a3 v3 p3 b3 r3 => ?_)))))))))
    refine o_load ty22 p3 r3 rfl (?_)
    have l3 := rep_len r3
    refine o_asg v3 rfl (wl_nil (wt_region (o_mov v2 rfl (o_mov v3 rfl (o_append sl22 s1 o2 r3 rfl rfl (by have hd := List.drop_eq_getElem_cons (l := l) (i := i) (by omega); rw [hd, List.flatten_cons] at h1_1; have hc := congrArg List.length h1_1; simp only [List.length_append] at hc ⊢; omega) (by have hd := List.drop_eq_getElem_cons (l := l) (i := i) (by omega); rw [hd, List.flatten_cons] at h1_1; have hc := congrArg List.length h1_1; simp only [List.length_append] at hc ⊢; omega) (fun v4 A4 w4 e4 s4 o4 => ?_))))))
    have l4 := o4.bd
    refine o_asg v4 rfl (wl_nil (wt_inBlock (wt_region (o_addi rfl rfl (by omega) (o_mov (.int .i64 ((i : Int) + 1)) rfl (wl_nil (?_)))))))
    exact ih1.out _ _ _ (by omega) ⟨_, _, i + 1, (out ++ l[i]), A4, v4, ov_self _ _ ⟨rfl, rfl, rfl, int_eq (a := ((i : Int) + 1)) (by omega), trivial⟩, rfl, (e1.trans e4), s4, (OwnSl.cast (by clear ih1; rfl) o4), by clear ih1; omega, by clear ih1; have hd := List.drop_eq_getElem_cons (l := l) (i := i) (by omega); rw [← h1_1, hd, List.flatten_cons, List.append_assoc]⟩
  · refine wl_nil (wt_seq (wt_false rfl (wt_exit rfl (wt_seq (wt_region (o_mov v2 rfl (?_)))))))
    obtain ⟨I5, e5, s5, r5⟩ := OwnSl.freeze o2 s1
    refine o_ret cc10 (C_vset_Of s5 r5 (by have : out = l.flatten := (by rw [← h1_1, List.drop_eq_nil_of_le (by omega)]; simp); rw [this]; omega)) rfl ?_
    rintro v6 I6 w6 e6 ⟨s6, r6⟩
    have l6 := rep_len r6
    refine o_asg v6 rfl (wl_nil (?_))
    exact ret_one Try.func18 rfl rfl ((e1.trans e5).trans e6) ⟨s6, rep_cast (by have : out = l.flatten := (by rw [← h1_1, List.drop_eq_nil_of_le (by omega)]; simp); rw [this]) r6⟩

theorem C_voussoirref03_Union {I : Reg} {w : World} {T : Own} {l : List (List (Int))} {u0 : Value} (s0 : St I w T) (r_l : rep I w u0 l) (q0 : l.flatten.length ≤ 1000000) :
    Ret Try.prog 19 [u0] I w fun r I' w' => St I' w' T ∧ rep I' w' r (refOf l.flatten) := by
  have l_l := rep_len r_l
  refine ret_of_wt Try.func19 rfl Try.ntmps19 rfl ?_
  refine wt_seq (wt_region (o_assign (wl_nil (wt_seq (wt_region (o_buildO (xs := ([] : List (Int))) (vs := []) sl22 s0 rfl trivial rfl rfl (fun v1 A1 w1 e1 s1 o1 => ?_)))))))
  refine o_asg v1 rfl (wl_nil (wt_seq (wt_seq (wt_region (o_assign (wl_nil (wt_block (wt_loop (fun n f w2 => ∃ (g : Fr) (I2 : Reg) (i : Nat) (out : List Int) (A3 : Own) (v3 : Value), f = ov [(0, u0), (3, v3), (4, .int .i64 (i : Int))] g ∧ n = (l.length - i) ∧ Ext I w1 I2 w2 ∧ St I2 w2 (A3 ++ T) ∧ OwnSl I2 w2 3 A3 v3 out ∧ (i ≤ l.length) ∧ (out ++ (l.drop i).flatten = l.flatten)) _ ⟨_, _, 0, [], A1, v1, ov_self _ _ ⟨rfl, rfl, rfl, trivial⟩, rfl, Ext.refl _ _, s1, (OwnSl.cast (by simp) o1), by first | omega | simp, by simp⟩ ?_))))))))
  rintro n f w2 ⟨g, I2, i, out, A3, v3, rfl, rfl, e2, s2, o3, h2_0, h2_1⟩ ih2
  have l3 := o3.bd
  refine wt_seq (wt_seq (wt_region (o_mov (.int .i64 (i : Int)) rfl (o_mov u0 rfl (o_len' (e2.rep (e1.rep r_l)) rfl sl29 rfl (o_lss rfl rfl (fun c55 => ?_) (fun c55 => ?_)))))))
  · refine wl_nil (wt_true rfl (wt_skip (wt_seq (wt_block (wt_region (o_mov v3 rfl (o_mov u0 rfl (o_mov (.int .i64 (i : Int)) rfl (o_index (j := i) sl29 (e2.rep (e1.rep r_l)) rfl rfl rfl (by omega) (fun a4 v4 p4 b4 r4 => ?_))))))))))
    refine o_load ty22 p4 r4 rfl (?_)
    have l4 := rep_len r4
    refine o_append sl22 s2 o3 r4 rfl rfl (by have hd := List.drop_eq_getElem_cons (l := l) (i := i) (by omega); rw [hd, List.flatten_cons] at h2_1; have hc := congrArg List.length h2_1; simp only [List.length_append] at hc ⊢; omega) (by have hd := List.drop_eq_getElem_cons (l := l) (i := i) (by omega); rw [hd, List.flatten_cons] at h2_1; have hc := congrArg List.length h2_1; simp only [List.length_append] at hc ⊢; omega) (fun v5 A5 w5 e5 s5 o5 => ?_)
    have l5 := o5.bd
    refine o_asg v5 rfl (wl_nil (wt_inBlock (wt_region (o_mov (.int .i64 (i : Int)) rfl (o_addi rfl rfl (by omega) (o_asg (.int .i64 ((i : Int) + 1)) rfl (wl_nil (?_))))))))
    exact ih2.out _ _ _ (by omega) ⟨_, _, i + 1, (out ++ l[i]), A5, v5, ov_self _ _ ⟨rfl, rfl, int_eq (a := ((i : Int) + 1)) (by omega), trivial⟩, rfl, (e2.trans e5), s5, (OwnSl.cast (by clear ih2; rfl) o5), by clear ih2; omega, by clear ih2; have hd := List.drop_eq_getElem_cons (l := l) (i := i) (by omega); rw [← h2_1, hd, List.flatten_cons, List.append_assoc]⟩
  · refine wl_nil (wt_false rfl (wt_exit rfl (wt_seq (wt_region (o_mov v3 rfl (?_))))))
    obtain ⟨I6, e6, s6, r6⟩ := OwnSl.freeze o3 s2
    refine o_ret cc12 (C_voussoirref03_Of s6 r6 (by have : out = l.flatten := (by rw [← h2_1, List.drop_eq_nil_of_le (by omega)]; simp); rw [this]; omega)) rfl ?_
    rintro v7 I7 w7 e7 ⟨s7, r7⟩
    have l7 := rep_len r7
    refine o_asg v7 rfl (wl_nil (?_))
    exact ret_one Try.func19 rfl rfl (((e1.trans e2).trans e6).trans e7) ⟨s7, rep_cast (by have : out = l.flatten := (by rw [← h2_1, List.drop_eq_nil_of_le (by omega)]; simp); rw [this]) r7⟩

theorem C_vset_kept {I : Reg} {w : World} {T : Own} {a : List (Int)} {u0 : Value} {b : List (Int)} {u1 : Value} {is : Bool} (s0 : St I w T) (r_a : rep I w u0 a) (r_b : rep I w u1 b) (q0 : a.length ≤ 1000000) :
    Ret Try.prog 40 [u0, u1, .bool is] I w fun r I' w' => St I' w' T ∧ rep I' w' r (setOf (a.filter (fun v => (decide (v ∈ b)) == is))) := by
  have l_a := rep_len r_a
  have l_b := rep_len r_b
  refine ret_of_wt Try.func40 rfl Try.ntmps40 rfl ?_
  refine wt_seq (wt_region (o_assign (wl_nil (wt_seq (wt_region (o_assign (wl_nil (wt_seq (wt_seq (wt_region (o_mov u0 rfl (o_len' r_a rfl sl22 rfl (o_move (wl_nil (wt_block (wt_loop (fun n f w1 => ∃ (g : Fr) (I1 : Reg) (i : Nat) (out : List Int) (A2 : Own) (v2 : Value), f = ov [(1, u1), (2, .bool is), (7, v2), (10, u0), (11, .int .i64 (a.length : Int)), (12, .int .i64 (i : Int))] g ∧ n = (a.length - i) ∧ Ext I w I1 w1 ∧ St I1 w1 (A2 ++ T) ∧ OwnSl I1 w1 3 A2 v2 out ∧ (i ≤ a.length) ∧ (out.length ≤ i) ∧ (out ++ (a.drop i).filter (fun v => (decide (v ∈ b)) == is) = a.filter (fun v => (decide (v ∈ b)) == is))) _ ⟨_, _, 0, [], [], .slice none 0 0, ov_self _ _ ⟨rfl, rfl, rfl, rfl, rfl, rfl, trivial⟩, rfl, Ext.refl _ _, s0, (OwnSl.cast (by simp) OwnSl.nil), by first | omega | simp, by first | omega | simp, by simp⟩ ?_))))))))))))))))
  rintro n f w1 ⟨g, I1, i, out, A2, v2, rfl, rfl, e1, s1, o2, h1_0, h1_1, h1_2⟩ ih1
  have l2 := o2.bd
  refine wt_seq (wt_region (o_lss rfl rfl (fun c54 => ?_) (fun c54 => ?_)))
  · refine wl_nil (wt_seq (wt_true rfl (wt_skip (wt_seq (wt_block (wt_seq (wt_region (o_index (j := i) sl22 (e1.rep r_a) rfl rfl rfl (by omega) (fun a3 v3 p3 b3 r3 => ?_)))))))))
    refine o_load ty3 p3 r3 rfl (?_)
    obtain ⟨rfl, lo3, hi3⟩ := r3
    refine o_asg (.int .i64 (a[i])) rfl (wl_nil (wt_seq (wt_region (o_mov u1 rfl (o_mov (.int .i64 (a[i])) rfl (o_ret cc15 (C_vset_Has s1 (e1.rep r_b)) rfl ?_))))))
    rintro v4 I4 w4 e4 ⟨s4, rfl⟩
    refine o_mov (.bool is) rfl (o_eqb rfl rfl Try.underlying4 (wl_nil (wt_cond rfl (fun c55 => ?_) (fun c55 => ?_))))
    · refine wt_region (o_mov v2 rfl (o_mov (.int .i64 (a[i])) rfl (o_buildI (xs := ([a[i]] : List (Int))) (vs := [.int .i64 (a[i])]) sl22 s4 rfl ⟨⟨rfl, by omega, by omega⟩, trivial⟩ rfl rfl (fun v5 I5 w5 e5 s5 r5 => ?_))))
      refine o_append sl22 s5 ((o2.mono e4).mono e5) r5 rfl rfl (by simp; omega) (by simp; omega) (fun v6 A6 w6 e6 s6 o6 => ?_)
      have l6 := o6.bd
      refine o_asg v6 rfl (wl_nil (wt_inBlock (wt_region (o_addi rfl rfl (by omega) (o_mov (.int .i64 ((i : Int) + 1)) rfl (wl_nil (?_)))))))
      exact ih1.out _ _ _ (by omega) ⟨_, _, i + 1, (out ++ ([a[i]] : List (Int))), A6, v6, ov_self _ _ ⟨rfl, rfl, rfl, rfl, rfl, int_eq (a := ((i : Int) + 1)) (by omega), trivial⟩, rfl, (((e1.trans e4).trans e5).trans e6), s6, (OwnSl.cast (by clear ih1; rfl) o6), by clear ih1; omega, by clear ih1; first | omega | (simp; omega), by clear ih1; have hd := List.drop_eq_getElem_cons (l := a) (i := i) (by omega); rw [← h1_2, hd]; first | (simp only [List.filter_cons]; rw [if_pos (by simpa using c55)]; simp; done) | (simp only [List.filter_cons]; rw [if_neg (by simpa using c55)]; done)⟩
    · refine wt_skip (wt_inBlock (wt_region (o_addi rfl rfl (by omega) (o_mov (.int .i64 ((i : Int) + 1)) rfl (wl_nil (?_))))))
      exact ih1.out _ _ _ (by omega) ⟨_, _, i + 1, out, A2, v2, ov_self _ _ ⟨rfl, rfl, rfl, rfl, rfl, int_eq (a := ((i : Int) + 1)) (by omega), trivial⟩, rfl, (e1.trans e4), s4, (OwnSl.cast (by clear ih1; rfl) (o2.mono e4)), by clear ih1; omega, by clear ih1; first | omega | (simp; omega), by clear ih1; have hd := List.drop_eq_getElem_cons (l := a) (i := i) (by omega); rw [← h1_2, hd]; first | (simp only [List.filter_cons]; rw [if_pos (by simpa using c55)]; simp; done) | (simp only [List.filter_cons]; rw [if_neg (by simpa using c55)]; done)⟩
  · refine wl_nil (wt_seq (wt_false rfl (wt_exit rfl (wt_seq (wt_region (o_mov v2 rfl (?_)))))))
    obtain ⟨I7, e7, s7, r7⟩ := OwnSl.freeze o2 s1
    refine o_ret cc10 (C_vset_Of s7 r7 (by omega)) rfl ?_
    rintro v8 I8 w8 e8 ⟨s8, r8⟩
    have l8 := rep_len r8
    refine o_asg v8 rfl (wl_nil (?_))
    exact ret_one Try.func40 rfl rfl ((e1.trans e7).trans e8) ⟨s8, rep_cast (by have : out = a.filter (fun v => (decide (v ∈ b)) == is) := (by rw [← h1_2, List.drop_eq_nil_of_le (by omega)]; simp); rw [this]) r8⟩

theorem C_voussoirref03_Meet {I : Reg} {w : World} {T : Own} {a : List (Int)} {u0 : Value} {b : List (Int)} {u1 : Value} (s0 : St I w T) (r_a : rep I w u0 a) (r_b : rep I w u1 b) (q0 : a.length ≤ 1000000) :
    Ret Try.prog 21 [u0, u1] I w fun r I' w' => St I' w' T ∧ rep I' w' r (refOf (a.filter (fun v => decide (v ∈ b)))) := by
  have l_a := rep_len r_a
  have l_b := rep_len r_b
  refine ret_of_wt Try.func21 rfl Try.ntmps21 rfl ?_
  refine wt_seq (wt_region (o_assign (wl_nil (wt_seq (wt_region (o_buildO (xs := ([] : List (Int))) (vs := []) sl22 s0 rfl trivial rfl rfl (fun v1 A1 w1 e1 s1 o1 => ?_)))))))
  refine o_asg v1 rfl (wl_nil (wt_seq (wt_seq (wt_region (o_assign (wl_nil (wt_block (wt_loop (fun n f w2 => ∃ (g : Fr) (I2 : Reg) (i : Nat) (out : List Int) (A3 : Own) (v3 : Value), f = ov [(0, u0), (1, u1), (5, v3), (6, .int .i64 (i : Int))] g ∧ n = (a.length - i) ∧ Ext I w1 I2 w2 ∧ St I2 w2 (A3 ++ T) ∧ OwnSl I2 w2 3 A3 v3 out ∧ (i ≤ a.length) ∧ (out.length ≤ i) ∧ (out ++ (a.drop i).filter (fun v => decide (v ∈ b)) = a.filter (fun v => decide (v ∈ b)))) _ ⟨_, _, 0, [], A1, v1, ov_self _ _ ⟨rfl, rfl, rfl, rfl, trivial⟩, rfl, Ext.refl _ _, s1, (OwnSl.cast (by simp) o1), by first | omega | simp, by first | omega | simp, by simp⟩ ?_))))))))
  rintro n f w2 ⟨g, I2, i, out, A3, v3, rfl, rfl, e2, s2, o3, h2_0, h2_1, h2_2⟩ ih2
  have l3 := o3.bd
  refine wt_seq (wt_seq (wt_region (o_mov (.int .i64 (i : Int)) rfl (o_mov u0 rfl (o_len' (e2.rep (e1.rep r_a)) rfl sl22 rfl (o_lss rfl rfl (fun c64 => ?_) (fun c64 => ?_)))))))
  · refine wl_nil (wt_true rfl (wt_skip (wt_seq (wt_block (wt_seq (wt_region (o_mov u1 rfl (o_mov u0 rfl (o_mov (.int .i64 (i : Int)) rfl (o_index (j := i) sl22 (e2.rep (e1.rep r_a)) rfl rfl rfl (by omega) (fun a4 v4 p4 b4 r4 => ?_)))))))))))
    refine o_load ty3 p4 r4 rfl (?_)
    obtain ⟨rfl, lo4, hi4⟩ := r4
    refine o_ret cc16 (C_voussoirref03_Has s2 (e2.rep (e1.rep r_b))) rfl ?_
    rintro v5 I5 w5 e5 ⟨s5, rfl⟩
    refine wl_nil (wt_condp rfl (fun c65 => ?_) (fun c65 => ?_))
    · refine wt_region (o_mov v3 rfl (o_mov u0 rfl (o_mov (.int .i64 (i : Int)) rfl (o_index (j := i) sl22 (e5.rep (e2.rep (e1.rep r_a))) rfl rfl rfl (by omega) (fun a6 v6 p6 b6 r6 => ?_)))))
      refine o_load ty3 p6 r6 rfl (?_)
      obtain ⟨rfl, lo6, hi6⟩ := r6
      refine o_buildI (xs := ([a[i]] : List (Int))) (vs := [.int .i64 (a[i])]) sl22 s5 rfl ⟨⟨rfl, by omega, by omega⟩, trivial⟩ rfl rfl (fun v7 I7 w7 e7 s7 r7 => ?_)
      refine o_append sl22 s7 ((o3.mono e5).mono e7) r7 rfl rfl (by simp; omega) (by simp; omega) (fun v8 A8 w8 e8 s8 o8 => ?_)
      have l8 := o8.bd
      refine o_asg v8 rfl (wl_nil (wt_inBlock (wt_region (o_mov (.int .i64 (i : Int)) rfl (o_addi rfl rfl (by omega) (o_asg (.int .i64 ((i : Int) + 1)) rfl (wl_nil (?_))))))))
      exact ih2.out _ _ _ (by omega) ⟨_, _, i + 1, (out ++ ([a[i]] : List (Int))), A8, v8, ov_self _ _ ⟨rfl, rfl, rfl, int_eq (a := ((i : Int) + 1)) (by omega), trivial⟩, rfl, (((e2.trans e5).trans e7).trans e8), s8, (OwnSl.cast (by clear ih2; rfl) o8), by clear ih2; omega, by clear ih2; first | omega | (simp; omega), by clear ih2; have hd := List.drop_eq_getElem_cons (l := a) (i := i) (by omega); rw [← h2_2, hd]; first | (simp only [List.filter_cons]; rw [if_pos (by simpa using c65)]; simp; done) | (simp only [List.filter_cons]; rw [if_neg (by simpa using c65)]; done)⟩
    · refine wt_skip (wt_inBlock (wt_region (o_mov (.int .i64 (i : Int)) rfl (o_addi rfl rfl (by omega) (o_asg (.int .i64 ((i : Int) + 1)) rfl (wl_nil (?_)))))))
      exact ih2.out _ _ _ (by omega) ⟨_, _, i + 1, out, A3, v3, ov_self _ _ ⟨rfl, rfl, rfl, int_eq (a := ((i : Int) + 1)) (by omega), trivial⟩, rfl, (e2.trans e5), s5, (OwnSl.cast (by clear ih2; rfl) (o3.mono e5)), by clear ih2; omega, by clear ih2; first | omega | (simp; omega), by clear ih2; have hd := List.drop_eq_getElem_cons (l := a) (i := i) (by omega); rw [← h2_2, hd]; first | (simp only [List.filter_cons]; rw [if_pos (by simpa using c65)]; simp; done) | (simp only [List.filter_cons]; rw [if_neg (by simpa using c65)]; done)⟩
  · refine wl_nil (wt_false rfl (wt_exit rfl (wt_seq (wt_region (o_mov v3 rfl (?_))))))
    obtain ⟨I9, e9, s9, r9⟩ := OwnSl.freeze o3 s2
    refine o_ret cc12 (C_voussoirref03_Of s9 r9 (by omega)) rfl ?_
    rintro v10 I10 w10 e10 ⟨s10, r10⟩
    have l10 := rep_len r10
    refine o_asg v10 rfl (wl_nil (?_))
    exact ret_one Try.func21 rfl rfl (((e1.trans e2).trans e9).trans e10) ⟨s10, rep_cast (by have : out = a.filter (fun v => decide (v ∈ b)) := (by rw [← h2_2, List.drop_eq_nil_of_le (by omega)]; simp); rw [this]) r10⟩

theorem C_voussoirref03_Less {I : Reg} {w : World} {T : Own} {a : List (Int)} {u0 : Value} {b : List (Int)} {u1 : Value} (s0 : St I w T) (r_a : rep I w u0 a) (r_b : rep I w u1 b) (q0 : a.length ≤ 1000000) :
    Ret Try.prog 23 [u0, u1] I w fun r I' w' => St I' w' T ∧ rep I' w' r (refOf (a.filter (fun v => !(decide (v ∈ b))))) := by
  have l_a := rep_len r_a
  have l_b := rep_len r_b
  refine ret_of_wt Try.func23 rfl Try.ntmps23 rfl ?_
  refine wt_seq (wt_region (o_assign (wl_nil (wt_seq (wt_region (o_buildO (xs := ([] : List (Int))) (vs := []) sl22 s0 rfl trivial rfl rfl (fun v1 A1 w1 e1 s1 o1 => ?_)))))))
  refine o_asg v1 rfl (wl_nil (wt_seq (wt_seq (wt_region (o_assign (wl_nil (wt_block (wt_loop (fun n f w2 => ∃ (g : Fr) (I2 : Reg) (i : Nat) (out : List Int) (A3 : Own) (v3 : Value), f = ov [(0, u0), (1, u1), (5, v3), (6, .int .i64 (i : Int))] g ∧ n = (a.length - i) ∧ Ext I w1 I2 w2 ∧ St I2 w2 (A3 ++ T) ∧ OwnSl I2 w2 3 A3 v3 out ∧ (i ≤ a.length) ∧ (out.length ≤ i) ∧ (out ++ (a.drop i).filter (fun v => !(decide (v ∈ b))) = a.filter (fun v => !(decide (v ∈ b))))) _ ⟨_, _, 0, [], A1, v1, ov_self _ _ ⟨rfl, rfl, rfl, rfl, trivial⟩, rfl, Ext.refl _ _, s1, (OwnSl.cast (by simp) o1), by first | omega | simp, by first | omega | simp, by simp⟩ ?_))))))))
  rintro n f w2 ⟨g, I2, i, out, A3, v3, rfl, rfl, e2, s2, o3, h2_0, h2_1, h2_2⟩ ih2
  have l3 := o3.bd
  refine wt_seq (wt_seq (wt_region (o_mov (.int .i64 (i : Int)) rfl (o_mov u0 rfl (o_len' (e2.rep (e1.rep r_a)) rfl sl22 rfl (o_lss rfl rfl (fun c75 => ?_) (fun c75 => ?_)))))))
  · refine wl_nil (wt_true rfl (wt_skip (wt_seq (wt_block (wt_seq (wt_region (o_mov u1 rfl (o_mov u0 rfl (o_mov (.int .i64 (i : Int)) rfl (o_index (j := i) sl22 (e2.rep (e1.rep r_a)) rfl rfl rfl (by omega) (fun a4 v4 p4 b4 r4 => ?_)))))))))))
    refine o_load ty3 p4 r4 rfl (?_)
    obtain ⟨rfl, lo4, hi4⟩ := r4
    refine o_ret cc16 (C_voussoirref03_Has s2 (e2.rep (e1.rep r_b))) rfl ?_
    rintro v5 I5 w5 e5 ⟨s5, rfl⟩
    refine o_not rfl (wl_nil (wt_cond rfl (fun c76 => ?_) (fun c76 => ?_)))
    · refine wt_region (o_mov v3 rfl (o_mov u0 rfl (o_mov (.int .i64 (i : Int)) rfl (o_index (j := i) sl22 (e5.rep (e2.rep (e1.rep r_a))) rfl rfl rfl (by omega) (fun a6 v6 p6 b6 r6 => ?_)))))
      refine o_load ty3 p6 r6 rfl (?_)
      obtain ⟨rfl, lo6, hi6⟩ := r6
      refine o_buildI (xs := ([a[i]] : List (Int))) (vs := [.int .i64 (a[i])]) sl22 s5 rfl ⟨⟨rfl, by omega, by omega⟩, trivial⟩ rfl rfl (fun v7 I7 w7 e7 s7 r7 => ?_)
      refine o_append sl22 s7 ((o3.mono e5).mono e7) r7 rfl rfl (by simp; omega) (by simp; omega) (fun v8 A8 w8 e8 s8 o8 => ?_)
      have l8 := o8.bd
      refine o_asg v8 rfl (wl_nil (wt_inBlock (wt_region (o_mov (.int .i64 (i : Int)) rfl (o_addi rfl rfl (by omega) (o_asg (.int .i64 ((i : Int) + 1)) rfl (wl_nil (?_))))))))
      exact ih2.out _ _ _ (by omega) ⟨_, _, i + 1, (out ++ ([a[i]] : List (Int))), A8, v8, ov_self _ _ ⟨rfl, rfl, rfl, int_eq (a := ((i : Int) + 1)) (by omega), trivial⟩, rfl, (((e2.trans e5).trans e7).trans e8), s8, (OwnSl.cast (by clear ih2; rfl) o8), by clear ih2; omega, by clear ih2; first | omega | (simp; omega), by clear ih2; have hd := List.drop_eq_getElem_cons (l := a) (i := i) (by omega); rw [← h2_2, hd]; first | (simp only [List.filter_cons]; rw [if_pos (by simpa using c76)]; simp; done) | (simp only [List.filter_cons]; rw [if_neg (by simpa using c76)]; done)⟩
    · refine wt_skip (wt_inBlock (wt_region (o_mov (.int .i64 (i : Int)) rfl (o_addi rfl rfl (by omega) (o_asg (.int .i64 ((i : Int) + 1)) rfl (wl_nil (?_)))))))
      exact ih2.out _ _ _ (by omega) ⟨_, _, i + 1, out, A3, v3, ov_self _ _ ⟨rfl, rfl, rfl, int_eq (a := ((i : Int) + 1)) (by omega), trivial⟩, rfl, (e2.trans e5), s5, (OwnSl.cast (by clear ih2; rfl) (o3.mono e5)), by clear ih2; omega, by clear ih2; first | omega | (simp; omega), by clear ih2; have hd := List.drop_eq_getElem_cons (l := a) (i := i) (by omega); rw [← h2_2, hd]; first | (simp only [List.filter_cons]; rw [if_pos (by simpa using c76)]; simp; done) | (simp only [List.filter_cons]; rw [if_neg (by simpa using c76)]; done)⟩
  · refine wl_nil (wt_false rfl (wt_exit rfl (wt_seq (wt_region (o_mov v3 rfl (?_))))))
    obtain ⟨I9, e9, s9, r9⟩ := OwnSl.freeze o3 s2
    refine o_ret cc12 (C_voussoirref03_Of s9 r9 (by omega)) rfl ?_
    rintro v10 I10 w10 e10 ⟨s10, r10⟩
    have l10 := rep_len r10
    refine o_asg v10 rfl (wl_nil (?_))
    exact ret_one Try.func23 rfl rfl (((e1.trans e2).trans e9).trans e10) ⟨s10, rep_cast (by have : out = a.filter (fun v => !(decide (v ∈ b))) := (by rw [← h2_2, List.drop_eq_nil_of_le (by omega)]; simp); rw [this]) r10⟩

theorem C_vset_Meet {I : Reg} {w : World} {T : Own} {a : List (Int)} {u0 : Value} {b : List (Int)} {u1 : Value} (s0 : St I w T) (r_a : rep I w u0 a) (r_b : rep I w u1 b) (q0 : a.length ≤ 1000000) :
    Ret Try.prog 20 [u0, u1] I w fun r I' w' => St I' w' T ∧ rep I' w' r (setOf (a.filter (fun v => decide (v ∈ b)))) := by
  have l_a := rep_len r_a
  have l_b := rep_len r_b
  refine ret_of_wt Try.func20 rfl Try.ntmps20 rfl ?_
  refine wt_seq (wt_region (o_assign (wl_nil (wt_seq (wt_region (o_mov u0 rfl (o_mov u1 rfl (o_ret cc40 (C_vset_kept s0 r_a r_b (by omega)) rfl ?_))))))))
  rintro v1 I1 w1 e1 ⟨s1, r1⟩
  have l1 := rep_len r1
  refine o_asg v1 rfl (wl_nil (?_))
  exact ret_one Try.func20 rfl rfl e1 ⟨s1, rep_cast (by simp) r1⟩

theorem C_vset_Less {I : Reg} {w : World} {T : Own} {a : List (Int)} {u0 : Value} {b : List (Int)} {u1 : Value} (s0 : St I w T) (r_a : rep I w u0 a) (r_b : rep I w u1 b) (q0 : a.length ≤ 1000000) :
    Ret Try.prog 22 [u0, u1] I w fun r I' w' => St I' w' T ∧ rep I' w' r (setOf (a.filter (fun v => !(decide (v ∈ b))))) := by
  have l_a := rep_len r_a
  have l_b := rep_len r_b
  refine ret_of_wt Try.func22 rfl Try.ntmps22 rfl ?_
  refine wt_seq (wt_region (o_assign (wl_nil (wt_seq (wt_region (o_mov u0 rfl (o_mov u1 rfl (o_ret cc40 (C_vset_kept s0 r_a r_b (by omega)) rfl ?_))))))))
  rintro v1 I1 w1 e1 ⟨s1, r1⟩
  have l1 := rep_len r1
  refine o_asg v1 rfl (wl_nil (?_))
  exact ret_one Try.func22 rfl rfl e1 ⟨s1, rep_cast (by simp) r1⟩

theorem C_vset_Within {I : Reg} {w : World} {T : Own} {a : List (Int)} {u0 : Value} {b : List (Int)} {u1 : Value} (s0 : St I w T) (r_a : rep I w u0 a) (r_b : rep I w u1 b) (q0 : a.length ≤ 1000000) :
    Ret Try.prog 24 [u0, u1] I w fun r I' w' => St I' w' T ∧ r = .bool (a.all fun v => decide (v ∈ b)) := by
  have l_a := rep_len r_a
  have l_b := rep_len r_b
  refine ret_of_wt Try.func24 rfl Try.ntmps24 rfl ?_
  refine wt_seq (wt_region (o_assign (wl_nil (wt_seq (wt_region (o_mov u0 rfl (o_mov u1 rfl (o_ret cc22 (C_vset_Less s0 r_a r_b (by omega)) rfl ?_))))))))
  rintro v1 I1 w1 e1 ⟨s1, r1⟩
  have l1 := rep_len r1
  refine o_len' r1 rfl sl22 rfl (o_eqlv rfl rfl (o_asg (.bool (decide (((setOf (a.filter (fun v => !(decide (v ∈ b))))).length : Int) = 0))) rfl (wl_nil (?_))))
  exact ret_one Try.func24 rfl rfl e1 ⟨s1, congrArg Value.bool (by exact within_eq)⟩

theorem C_voussoirref03_Within {I : Reg} {w : World} {T : Own} {a : List (Int)} {u0 : Value} {b : List (Int)} {u1 : Value} (s0 : St I w T) (r_a : rep I w u0 a) (r_b : rep I w u1 b) (q0 : a.length ≤ 1000000) :
    Ret Try.prog 25 [u0, u1] I w fun r I' w' => St I' w' T ∧ r = .bool (a.all fun v => decide (v ∈ b)) := by
  have l_a := rep_len r_a
  have l_b := rep_len r_b
  refine ret_of_wt Try.func25 rfl Try.ntmps25 rfl ?_
  refine wt_seq (wt_region (o_assign (wl_nil (wt_seq (wt_region (o_mov u0 rfl (o_mov u1 rfl (o_ret cc23 (C_voussoirref03_Less s0 r_a r_b (by omega)) rfl ?_))))))))
  rintro v1 I1 w1 e1 ⟨s1, r1⟩
  have l1 := rep_len r1
  refine o_len' r1 rfl sl22 rfl (o_eqlv rfl rfl (o_asg (.bool (decide (((refOf (a.filter (fun v => !(decide (v ∈ b))))).length : Int) = 0))) rfl (wl_nil (?_))))
  exact ret_one Try.func25 rfl rfl e1 ⟨s1, congrArg Value.bool (by rw [← setOf_eq]; exact within_eq)⟩

theorem C_vset_Same {I : Reg} {w : World} {T : Own} {a : List (Int)} {u0 : Value} {b : List (Int)} {u1 : Value} (s0 : St I w T) (r_a : rep I w u0 a) (r_b : rep I w u1 b) (q0 : a.length ≤ 1000000) (q1 : b.length ≤ 1000000) :
    Ret Try.prog 26 [u0, u1] I w fun r I' w' => St I' w' T ∧ r = .bool ((a.all fun v => decide (v ∈ b)) && (b.all fun v => decide (v ∈ a))) := by
  have l_a := rep_len r_a
  have l_b := rep_len r_b
  refine ret_of_wt Try.func26 rfl Try.ntmps26 rfl ?_
  refine wt_seq (wt_region (o_assign (wl_nil (wt_seq (wt_region (o_mov u0 rfl (o_mov u1 rfl (o_ret cc24 (C_vset_Within s0 r_a r_b (by omega)) rfl ?_))))))))
  rintro v1 I1 w1 e1 ⟨s1, rfl⟩
  refine o_mov (.bool (a.all fun v => decide (v ∈ b))) rfl (wl_caseb (d := 8) rfl rfl (fun c72 => ?_) (fun c72 => ?_))
  · refine wl_yes rfl (o_mov u1 rfl (wl_yes rfl (o_mov u0 rfl (wl_yes rfl (o_ret cc24 (C_vset_Within s1 (e1.rep r_b) (e1.rep r_a) (by omega)) rfl ?_)))))
    rintro v2 I2 w2 e2 ⟨s2, rfl⟩
    refine o_pickt (.bool (b.all fun v => decide (v ∈ a))) rfl rfl (o_asg (.bool (b.all fun v => decide (v ∈ a))) rfl (wl_nil (?_)))
    exact ret_one Try.func26 rfl rfl (e1.trans e2) ⟨s2, congrArg Value.bool (by rw [c72]; first | rfl | simp)⟩
  · refine wl_no rfl (wl_no rfl (wl_no rfl (o_pick0 rfl (o_asg (.bool false) rfl (wl_nil (?_))))))
    exact ret_one Try.func26 rfl rfl e1 ⟨s1, congrArg Value.bool (by rw [c72]; first | rfl | simp)⟩

theorem C_voussoirlaw03_lives {I : Reg} {w : World} {T : Own}  (s0 : St I w T) :
    Ret Try.prog 17 [] I w fun r I' w' => St I' w' T ∧ r = .bool true := by
  refine ret_of_wt Try.func17 rfl Try.ntmps17 rfl ?_
  refine wt_seq (wt_region (o_assign (wl_nil (wt_seq (wt_region (o_buildI (xs := ([3, 1, 3] : List (Int))) (vs := [.int .i64 3, .int .i64 1, .int .i64 3]) sl22 s0 rfl ⟨⟨rfl, by omega, by omega⟩, ⟨rfl, by omega, by omega⟩, ⟨rfl, by omega, by omega⟩, trivial⟩ rfl rfl (fun v1 I1 w1 e1 s1 r1 => ?_)))))))
  refine o_ret cc10 (C_vset_Of s1 r1 (by first | omega | simp_all)) rfl ?_
  rintro v2 I2 w2 e2 ⟨s2, r2⟩
  have l2 := rep_len r2
  refine o_buildI (xs := ([1, 3] : List (Int))) (vs := [.int .i64 1, .int .i64 3]) sl22 s2 rfl ⟨⟨rfl, by omega, by omega⟩, ⟨rfl, by omega, by omega⟩, trivial⟩ rfl rfl (fun v3 I3 w3 e3 s3 r3 => ?_)
  refine o_ret cc11 (C_voussoirref03_Same s3 (e3.rep r2) r3) rfl ?_
  rintro v4 I4 w4 e4 ⟨s4, rfl⟩
  refine o_mov (.bool ((setOf ([3, 1, 3] : List (Int))) == ([1, 3] : List (Int)))) rfl (wl_caseb (d := 5) rfl rfl (fun _ => ?_) (fun h => nomatch h.symm.trans (show ((setOf ([3, 1, 3] : List (Int))) == ([1, 3] : List (Int))) = true from by decide)))
  refine wl_yes rfl (o_buildI (xs := ([2, 1] : List (Int))) (vs := [.int .i64 2, .int .i64 1]) sl22 s4 rfl ⟨⟨rfl, by omega, by omega⟩, ⟨rfl, by omega, by omega⟩, trivial⟩ rfl rfl (fun v5 I5 w5 e5 s5 r5 => ?_))
  refine wl_yes rfl (o_buildI (xs := ([1, 4] : List (Int))) (vs := [.int .i64 1, .int .i64 4]) sl22 s5 rfl ⟨⟨rfl, by omega, by omega⟩, ⟨rfl, by omega, by omega⟩, trivial⟩ rfl rfl (fun v6 I6 w6 e6 s6 r6 => ?_))
  refine wl_yes rfl (o_buildI (xs := ([([2, 1] : List (Int)), ([1, 4] : List (Int))] : List (List (Int)))) (vs := [v5, v6]) sl29 s6 rfl ⟨(e6.rep r5), r6, trivial⟩ rfl rfl (fun v7 I7 w7 e7 s7 r7 => ?_))
  refine wl_yes rfl (o_ret cc18 (C_vset_Union s7 r7 (by first | omega | simp_all)) rfl ?_)
  rintro v8 I8 w8 e8 ⟨s8, r8⟩
  have l8 := rep_len r8
  refine wl_yes rfl (o_buildI (xs := ([1, 2, 4] : List (Int))) (vs := [.int .i64 1, .int .i64 2, .int .i64 4]) sl22 s8 rfl ⟨⟨rfl, by omega, by omega⟩, ⟨rfl, by omega, by omega⟩, ⟨rfl, by omega, by omega⟩, trivial⟩ rfl rfl (fun v9 I9 w9 e9 s9 r9 => ?_))
  refine wl_yes rfl (o_ret cc11 (C_voussoirref03_Same s9 (e9.rep r8) r9) rfl ?_)
  rintro v10 I10 w10 e10 ⟨s10, rfl⟩
  refine o_pickt (.bool ((setOf ([([2, 1] : List (Int)), ([1, 4] : List (Int))] : List (List (Int))).flatten) == ([1, 2, 4] : List (Int)))) rfl rfl (o_mov (.bool ((setOf ([([2, 1] : List (Int)), ([1, 4] : List (Int))] : List (List (Int))).flatten) == ([1, 2, 4] : List (Int)))) rfl (wl_caseb (d := 13) rfl rfl (fun _ => ?_) (fun h => nomatch h.symm.trans (show ((setOf ([([2, 1] : List (Int)), ([1, 4] : List (Int))] : List (List (Int))).flatten) == ([1, 2, 4] : List (Int))) = true from by decide))))
  refine wl_yes rfl (o_buildI (xs := ([1, 2, 3] : List (Int))) (vs := [.int .i64 1, .int .i64 2, .int .i64 3]) sl22 s10 rfl ⟨⟨rfl, by omega, by omega⟩, ⟨rfl, by omega, by omega⟩, ⟨rfl, by omega, by omega⟩, trivial⟩ rfl rfl (fun v11 I11 w11 e11 s11 r11 => ?_))
  refine wl_yes rfl (o_buildI (xs := ([2] : List (Int))) (vs := [.int .i64 2]) sl22 s11 rfl ⟨⟨rfl, by omega, by omega⟩, trivial⟩ rfl rfl (fun v12 I12 w12 e12 s12 r12 => ?_))
  refine wl_yes rfl (o_ret cc22 (C_vset_Less s12 (e12.rep r11) r12 (by first | omega | simp_all)) rfl ?_)
  rintro v13 I13 w13 e13 ⟨s13, r13⟩
  have l13 := rep_len r13
  refine wl_yes rfl (o_buildI (xs := ([1, 3] : List (Int))) (vs := [.int .i64 1, .int .i64 3]) sl22 s13 rfl ⟨⟨rfl, by omega, by omega⟩, ⟨rfl, by omega, by omega⟩, trivial⟩ rfl rfl (fun v14 I14 w14 e14 s14 r14 => ?_))
  refine wl_yes rfl (o_ret cc11 (C_voussoirref03_Same s14 (e14.rep r13) r14) rfl ?_)
  rintro v15 I15 w15 e15 ⟨s15, rfl⟩
  refine o_pickt (.bool ((setOf (([1, 2, 3] : List (Int)).filter (fun v => !(decide (v ∈ ([2] : List (Int))))))) == ([1, 3] : List (Int)))) rfl rfl (o_mov (.bool ((setOf (([1, 2, 3] : List (Int)).filter (fun v => !(decide (v ∈ ([2] : List (Int))))))) == ([1, 3] : List (Int)))) rfl (wl_caseb (d := 20) rfl rfl (fun _ => ?_) (fun h => nomatch h.symm.trans (show ((setOf (([1, 2, 3] : List (Int)).filter (fun v => !(decide (v ∈ ([2] : List (Int))))))) == ([1, 3] : List (Int))) = true from by decide))))
  refine wl_yes rfl (o_buildI (xs := ([1, 1] : List (Int))) (vs := [.int .i64 1, .int .i64 1]) sl22 s15 rfl ⟨⟨rfl, by omega, by omega⟩, ⟨rfl, by omega, by omega⟩, trivial⟩ rfl rfl (fun v16 I16 w16 e16 s16 r16 => ?_))
  refine wl_yes rfl (o_ret cc13 (C_vset_Right s16 r16) rfl ?_)
  rintro v17 I17 w17 e17 ⟨s17, rfl⟩
  refine wl_yes rfl (o_not rfl (o_pickt (.bool (!(inc ([1, 1] : List (Int))))) rfl rfl (o_mov (.bool (!(inc ([1, 1] : List (Int))))) rfl (wl_caseb (d := 25) rfl rfl (fun _ => ?_) (fun h => nomatch h.symm.trans (show (!(inc ([1, 1] : List (Int)))) = true from by decide))))))
  refine wl_yes rfl (o_buildI (xs := ([2] : List (Int))) (vs := [.int .i64 2]) sl22 s17 rfl ⟨⟨rfl, by omega, by omega⟩, trivial⟩ rfl rfl (fun v18 I18 w18 e18 s18 r18 => ?_))
  refine wl_yes rfl (o_ret cc15 (C_vset_Has s18 r18) rfl ?_)
  rintro v19 I19 w19 e19 ⟨s19, rfl⟩
  refine o_pickt (.bool (decide (2 ∈ ([2] : List (Int))))) rfl rfl (o_asg (.bool (decide (2 ∈ ([2] : List (Int))))) rfl (wl_nil (?_)))
  exact ret_one Try.func17 rfl rfl ((((((((((((((((((e1.trans e2).trans e3).trans e4).trans e5).trans e6).trans e7).trans e8).trans e9).trans e10).trans e11).trans e12).trans e13).trans e14).trans e15).trans e16).trans e17).trans e18).trans e19) ⟨s19, congrArg Value.bool (by decide)⟩
end Go.Proofs.Ytinfniggaldheaa
