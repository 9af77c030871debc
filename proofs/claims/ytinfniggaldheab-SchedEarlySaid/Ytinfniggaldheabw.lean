/-
  What is to be shown of each function, in plain Lean (NAME_v), and the walk that carries it to the machine (NAME_w). Part 1.
-/
import Derived.Test.Ytinfniggaldheabv
import Derived.Test.YtinfniggaldheabChecked
namespace Go.Proofs.Ytinfniggaldheab
open Go Go.X
theorem sl22 : slB Try.prog 22 23 1 24 = true := by kernel_rfl
theorem ty23 : tyB Try.prog 23 false 1 = true := by kernel_rfl
theorem sl23 : slB Try.prog 23 3 1 8 = true := by kernel_rfl
theorem sl35 : slB Try.prog 35 36 2 32 = true := by kernel_rfl
theorem ty36 : tyB Try.prog 36 true 2 = true := by kernel_rfl
theorem zr36 : zrB Try.prog 36 (.agg #[.int .i64 0, .slice none 0 0]) := (by kernel_rfl : (Try.prog.info? 36).bind (·.zero) = some (.agg #[.int .i64 0, .slice none 0 0]))
theorem fl36_1 : flB Try.prog 36 1 1 = true := by kernel_rfl
theorem ty3 : tyB Try.prog 3 false 1 = true := by kernel_rfl
theorem mixed : Try.prog.follows .mixedOrders = true := by kernel_rfl
theorem cc11 : canCall Try.prog 11 = true := by kernel_rfl
theorem cc26 : canCall Try.prog 26 = true := by kernel_rfl
theorem cc24 : canCall Try.prog 24 = true := by kernel_rfl
theorem zr43 : zrB Try.prog 43 (.agg #[.int .i64 0, .slice none 0 0, .int .i64 0]) := (by kernel_rfl : (Try.prog.info? 43).bind (·.zero) = some (.agg #[.int .i64 0, .slice none 0 0, .int .i64 0]))
theorem sl40 : slB Try.prog 40 43 3 40 = true := by kernel_rfl
theorem ty43 : tyB Try.prog 43 true 3 = true := by kernel_rfl
theorem cc25 : canCall Try.prog 25 = true := by kernel_rfl
theorem fl43_1 : flB Try.prog 43 1 1 = true := by kernel_rfl
theorem fl43_2 : flB Try.prog 43 2 2 = true := by kernel_rfl
theorem fl43_0 : flB Try.prog 43 0 0 = true := by kernel_rfl
theorem cc17 : canCall Try.prog 17 = true := by kernel_rfl
theorem cc16 : canCall Try.prog 16 = true := by kernel_rfl
theorem cc10 : canCall Try.prog 10 = true := by kernel_rfl
theorem mt39 : MapT Try.prog 39 3 3 Int Int := ⟨Try.underlying39, KeyT.int Try.underlying3⟩
theorem zr3 : zrB Try.prog 3 (.int .i64 0) := (by kernel_rfl : (Try.prog.info? 3).bind (·.zero) = some (.int .i64 0))
theorem zv3 : ∀ w, (zeroValue 3).run Try.prog w = .ok (.int .i64 0) w := fun w => zero_run zr3
theorem cc12 : canCall Try.prog 12 = true := by kernel_rfl
theorem bd43 : bldB Try.prog 43 = some ([(0, 1), (1, 1), (2, 1)], #[.int .i64 0, .slice none 0 0, .int .i64 0]) := by kernel_rfl
theorem cc13 : canCall Try.prog 13 = true := by kernel_rfl
theorem cc15 : canCall Try.prog 15 = true := by kernel_rfl
theorem cc14 : canCall Try.prog 14 = true := by kernel_rfl
theorem cc18 : canCall Try.prog 18 = true := by kernel_rfl
theorem bd31 : bldB Try.prog 31 = some ([(0, 1), (1, 1)], #[.int .i64 0, .slice none 0 0]) := by kernel_rfl
theorem sl26 : slB Try.prog 26 31 2 32 = true := by kernel_rfl
theorem ty31 : tyB Try.prog 31 true 2 = true := by kernel_rfl
theorem zr31 : zrB Try.prog 31 (.agg #[.int .i64 0, .slice none 0 0]) := (by kernel_rfl : (Try.prog.info? 31).bind (·.zero) = some (.agg #[.int .i64 0, .slice none 0 0]))
theorem fl31_0 : flB Try.prog 31 0 0 = true := by kernel_rfl
theorem fl31_1 : flB Try.prog 31 1 1 = true := by kernel_rfl
theorem cc23 : canCall Try.prog 23 = true := by kernel_rfl
theorem cc21 : canCall Try.prog 21 = true := by kernel_rfl
theorem cc6 : canCall Try.prog 6 = true := by kernel_rfl
theorem cc9 : canCall Try.prog 9 = true := by kernel_rfl
theorem cc19 : canCall Try.prog 19 = true := by kernel_rfl
theorem cc20 : canCall Try.prog 20 = true := by kernel_rfl
theorem zr23 : zrB Try.prog 23 (.slice none 0 0) := (by kernel_rfl : (Try.prog.info? 23).bind (·.zero) = some (.slice none 0 0))
theorem cc22 : canCall Try.prog 22 = true := by kernel_rfl
theorem cc4 : canCall Try.prog 4 = true := by kernel_rfl
theorem cc5 : canCall Try.prog 5 = true := by kernel_rfl
theorem cc7 : canCall Try.prog 7 = true := by kernel_rfl
theorem mt29 : MapT Try.prog 29 3 4 Int Bool := ⟨Try.underlying29, KeyT.int Try.underlying3⟩
theorem zr4 : zrB Try.prog 4 (.bool false) := (by kernel_rfl : (Try.prog.info? 4).bind (·.zero) = some (.bool false))
theorem zv4 : ∀ w, (zeroValue 4).run Try.prog w = .ok (.bool false) w := fun w => zero_run zr4
theorem cc8 : canCall Try.prog 8 = true := by kernel_rfl
structure Ref42_Step where
  Part : Int
  Out : List Int
deriving DecidableEq
instance : Rep Ref42_Step := Rep.via fun p => (p.Part, p.Out)
theorem mk_Ref42_Step {I : Reg} {w : World} {c0 c1 : Value} {x0 : Int} {x1 : List Int} (h0 : rep I w c0 x0) (h1 : rep I w c1 x1) : rep I w (.agg #[c0, c1]) (⟨x0, x1⟩ : Ref42_Step) := (rep_pair h0 h1 (cells1 rfl h0) (cells1 rfl h1))
theorem open_Ref42_Step {I : Reg} {w : World} {v : Value} {p : Ref42_Step} (r : rep I w v p) : ∃ c0 c1, v = .agg #[c0, c1] ∧ rep I w c0 p.Part ∧ rep I w c1 p.Out := by
  obtain ⟨c0, c1, h0, r0, r1⟩ := r; exact ⟨c0, c1, by rw [h0, cells1 rfl r0, cells1 rfl r1]; rfl, r0, r1⟩
theorem fld_Ref42_Step_0 : FldD (fun p : Ref42_Step => p.Part) 0 := FldD.via FldD.fst
theorem fld_Ref42_Step_1 : FldD (fun p : Ref42_Step => p.Out) 1 := FldD.via (FldD.snd FldD.id rfl)
structure Sched_choice where
  part : Int
  out : List Int
  come : Int
deriving DecidableEq
instance : Rep Sched_choice := Rep.via fun p => (p.part, p.out, p.come)
theorem mk_Sched_choice {I : Reg} {w : World} {c0 c1 c2 : Value} {x0 : Int} {x1 : List Int} {x2 : Int} (h0 : rep I w c0 x0) (h1 : rep I w c1 x1) (h2 : rep I w c2 x2) : rep I w (.agg #[c0, c1, c2]) (⟨x0, x1, x2⟩ : Sched_choice) := (rep_pair h0 (rep_pair h1 h2 (cells1 rfl h1) (cells1 rfl h2)) (cells1 rfl h0) rfl)
theorem open_Sched_choice {I : Reg} {w : World} {v : Value} {p : Sched_choice} (r : rep I w v p) : ∃ c0 c1 c2, v = .agg #[c0, c1, c2] ∧ rep I w c0 p.part ∧ rep I w c1 p.out ∧ rep I w c2 p.come := by
  obtain ⟨c0, z0, h0, r0, c1, c2, h1, r1, r2⟩ := r; exact ⟨c0, c1, c2, by rw [h0, cells1 rfl r0, h1, cells_agg, cells1 rfl r1, cells1 rfl r2]; rfl, r0, r1, r2⟩
theorem fld_Sched_choice_0 : FldD (fun p : Sched_choice => p.part) 0 := FldD.via FldD.fst
theorem fld_Sched_choice_1 : FldD (fun p : Sched_choice => p.out) 1 := FldD.via (FldD.snd FldD.fst rfl)
theorem fld_Sched_choice_2 : FldD (fun p : Sched_choice => p.come) 2 := FldD.via (FldD.snd (FldD.snd FldD.id rfl) rfl)
structure Sched_Step where
  Part : Int
  Out : List Int
deriving DecidableEq
instance : Rep Sched_Step := Rep.via fun p => (p.Part, p.Out)
theorem mk_Sched_Step {I : Reg} {w : World} {c0 c1 : Value} {x0 : Int} {x1 : List Int} (h0 : rep I w c0 x0) (h1 : rep I w c1 x1) : rep I w (.agg #[c0, c1]) (⟨x0, x1⟩ : Sched_Step) := (rep_pair h0 h1 (cells1 rfl h0) (cells1 rfl h1))
theorem open_Sched_Step {I : Reg} {w : World} {v : Value} {p : Sched_Step} (r : rep I w v p) : ∃ c0 c1, v = .agg #[c0, c1] ∧ rep I w c0 p.Part ∧ rep I w c1 p.Out := by
  obtain ⟨c0, c1, h0, r0, r1⟩ := r; exact ⟨c0, c1, by rw [h0, cells1 rfl r0, cells1 rfl r1]; rfl, r0, r1⟩
theorem fld_Sched_Step_0 : FldD (fun p : Sched_Step => p.Part) 0 := FldD.via FldD.fst
theorem fld_Sched_Step_1 : FldD (fun p : Sched_Step => p.Out) 1 := FldD.via (FldD.snd FldD.id rfl)
def law42_few  (parts : List (List Int)) (out : List Int) (l : List Ref42_Step) (Q : Bool → Prop) : Prop := Wp Try.prog 4 (sD (sD (sD sN))) (parts, out, l, ()) rD Q
def law42_few_v  (parts : List (List Int)) (out : List Int) (l : List Ref42_Step) (Q : Bool → Prop) : Prop := (parts.length ≤ 9223372036854775807 → Rng0 parts.length (fun j2 q2 V2 => (∃ q4 : j2 < parts.length, ((parts[j2]).length ≤ 9223372036854775807 → (((10 < ((parts[j2]).length : Int)) → Q false) ∧ (¬(10 < ((parts[j2]).length : Int)) → V2))))) ((l.length ≤ 9223372036854775807 → Rng0 l.length (fun j8 q8 V8 => (∃ q10 : j8 < l.length, (((l[j8]).Out).length ≤ 9223372036854775807 → (((10 < (((l[j8]).Out).length : Int)) → Q false) ∧ (¬(10 < (((l[j8]).Out).length : Int)) → V8))))) ((parts.length ≤ 9223372036854775807 → ((((parts.length : Int) ≤ 8) → (out.length ≤ 9223372036854775807 → ((((out.length : Int) ≤ 12) → (l.length ≤ 9223372036854775807 → Q (decide ((l.length : Int) ≤ 10)))) ∧ (¬((out.length : Int) ≤ 12) → Q false)))) ∧ (¬((parts.length : Int) ≤ 8) → Q false)))))))
theorem law42_few_w  {parts : List (List Int)} {out : List Int} {l : List Ref42_Step} {Q : Bool → Prop} (h : law42_few_v parts out l Q) : law42_few parts out l Q := by
  rintro I w T A vs ⟨u0, _, rfl, (r_parts : rep I w u0 parts), u1, _, rfl, (r_out : rep I w u1 out), u2, _, rfl, (r_l : rep I w u2 l), rfl, rfl⟩ s0
  refine ret_of_wt Try.func4 rfl Try.ntmps4 rfl ?_
  refine wt_seq (wt_region (o_assign (wl_nil (wt_seq (wt_seq (wt_region (o_mov u0 rfl (o_len' r_parts rfl sl22 rfl (o_move (wl_nil (wt_block (?_))))))))))))
  have h1 := (h (rep_len r_parts))
  obtain ⟨V2, z2, b2, k2⟩ := h1
  refine wt_loop (fun n f w2 => ∃ (g : Fr) (I2 : Reg) (j2 : Nat) , f = ov [(0, u0), (1, u1), (2, u2), (11, u0), (12, .int .i64 (parts.length : Int)), (13, .int .i64 (j2 : Int))] g ∧ n = parts.length - j2 ∧ j2 ≤ parts.length ∧ Ext I w I2 w2 ∧ St I2 w2 T ∧ V2 j2 ) _ ⟨_, _, 0, ov_self _ _ ⟨rfl, rfl, rfl, rfl, rfl, rfl, trivial⟩, rfl, Nat.zero_le _, Ext.refl _ _, s0, z2⟩ ?_
  rintro n f w2 ⟨g, I2, j2, rfl, rfl, l2, e2, s2, h2⟩ i2
  refine wt_seq (wt_region (o_lssv rfl rfl (wl_nil (wt_seq (wt_condp rfl (fun q2 => ?_) (fun q2 => ?_))))))
  · have y2 := b2 _ (rng_lt q2) h2
    have q2n := rng_lt q2
    refine wt_skip (wt_seq (wt_block (wt_seq (wt_region (v_il (j := j2) sl22 (e2.rep r_parts) rfl rfl rfl rfl ty23 y2 (fun q4 a4 v4 r4 h4 => ?_))))))
    refine o_asg v4 rfl (wl_nil (wt_seq (wt_region (o_mov v4 rfl (o_len' r4 rfl sl23 rfl (o_gtrv rfl rfl (wl_nil (?_))))))))
    have h5 := (h4 (rep_len r4))
    refine wt_condp rfl (fun c6 => ?_) (fun c6 => ?_)
    · refine wt_seq (wt_region (o_assign (wl_nil (?_))))
      exact ret_one Try.func4 rfl rfl e2 ⟨[], _, s2, ⟨rfl, rfl⟩, (h5.1 c6)⟩
    · refine wt_skip (wt_inBlock (wt_region (o_addi rfl rfl (inr_succ0 q2n (rep_len r_parts)) (o_mov (.int .i64 ((j2 : Int) + 1)) rfl (wl_nil (?_))))))
      exact i2.out _ _ _ (by omega) ⟨_, _, j2 + 1, ov_self _ _ ⟨rfl, rfl, rfl, rfl, rfl, rfl, trivial⟩, rfl, q2n, e2, s2, (h5.2 c6)⟩
  · have y2 := k2 (rng_end (I := fun j => V2 j ) l2 q2 h2)
    refine wt_exit rfl (wt_seq (wt_seq (wt_region (o_mov u2 rfl (o_len' (e2.rep r_l) rfl sl35 rfl (o_move (wl_nil (wt_block (?_)))))))))
    have h7 := (y2 (rep_len r_l))
    obtain ⟨V8, z8, b8, k8⟩ := h7
    refine wt_loop (fun n f w8 => ∃ (g : Fr) (I8 : Reg) (j8 : Nat) , f = ov [(0, u0), (1, u1), (2, u2), (21, u2), (22, .int .i64 (l.length : Int)), (23, .int .i64 (j8 : Int))] g ∧ n = l.length - j8 ∧ j8 ≤ l.length ∧ Ext I2 w2 I8 w8 ∧ St I8 w8 T ∧ V8 j8 ) _ ⟨_, _, 0, ov_self _ _ ⟨rfl, rfl, rfl, rfl, rfl, rfl, trivial⟩, rfl, Nat.zero_le _, Ext.refl _ _, s2, z8⟩ ?_
    rintro n f w8 ⟨g, I8, j8, rfl, rfl, l8, e8, s8, h8⟩ i8
    refine wt_seq (wt_region (o_lssv rfl rfl (wl_nil (wt_seq (wt_condp rfl (fun q8 => ?_) (fun q8 => ?_))))))
    · have y8 := b8 _ (rng_lt q8) h8
      have q8n := rng_lt q8
      refine wt_skip (wt_seq (wt_block (wt_seq (wt_region (v_il (j := j8) sl35 (e8.rep (e2.rep r_l)) rfl rfl rfl rfl ty36 y8 (fun q10 a10 v10 r10 h10 => ?_))))))
      obtain ⟨c10_0, c10_1, rfl, rr10_0, r10_1⟩ := open_Ref42_Step r10
      obtain ⟨rfl, g10_0⟩ := rint_in rr10_0
      refine o_allocO (z := .agg #[.int .i64 0, .slice none 0 0]) (cs := #[.int .i64 0, .slice none 0 0]) s8 zr36 rfl (fun bk10 w11 e11 s11 => ?_)
      refine o_storeB (vs := [.int .i64 ((l[j8]).Part), c10_1]) ty36 s11 rfl rfl rfl rfl ⟨rfl, (one1 rfl (e11.rep r10_1)), trivial⟩ (fun w12 e12 s12 => ?_)
      refine wl_nil (wt_seq (wt_region (o_fieldO fl36_1 rfl (o_loadO (v := c10_1) ty23 s12 rfl rfl (o_len' (e12.rep (e11.rep r10_1)) rfl sl23 rfl (o_gtrv rfl rfl (wl_nil (?_))))))))
      have h13 := (h10 (rep_len r10_1))
      refine wt_condp rfl (fun c14 => ?_) (fun c14 => ?_)
      · refine wt_seq (wt_region (o_assign (wl_nil (?_))))
        exact ret_one Try.func4 rfl rfl (((e2.trans e8).trans e11).trans e12) ⟨[], _, s12.drop, ⟨rfl, rfl⟩, (h13.1 c14)⟩
      · refine wt_skip (wt_inBlock (wt_region (o_addi rfl rfl (inr_succ0 q8n (rep_len r_l)) (o_mov (.int .i64 ((j8 : Int) + 1)) rfl (wl_nil (?_))))))
        exact i8.out _ _ _ (by omega) ⟨_, _, j8 + 1, ov_self _ _ ⟨rfl, rfl, rfl, rfl, rfl, rfl, trivial⟩, rfl, q8n, ((e8.trans e11).trans e12), s12.drop, (h13.2 c14)⟩
    · have y8 := k8 (rng_end (I := fun j => V8 j ) l8 q8 h8)
      refine wt_exit rfl (wt_seq (wt_region (o_mov u0 rfl (o_len' (e8.rep (e2.rep r_parts)) rfl sl22 rfl (o_leqv rfl rfl (o_mov (.bool (decide ((parts.length : Int) ≤ 8))) rfl (?_)))))))
      have h15 := (y8 (rep_len r_parts))
      refine wl_casep (d := 35) rfl rfl (fun c16 => ?_) (fun c16 => ?_)
      · refine wl_yes rfl (o_mov u1 rfl (wl_yes rfl (o_len' (e8.rep (e2.rep r_out)) rfl sl23 rfl (wl_yes rfl (o_leqv rfl rfl (o_pickt (.bool (decide ((out.length : Int) ≤ 12))) rfl rfl (o_mov (.bool (decide ((out.length : Int) ≤ 12))) rfl (?_))))))))
        have h17 := ((h15.1 c16) (rep_len r_out))
        refine wl_casep (d := 40) rfl rfl (fun c18 => ?_) (fun c18 => ?_)
        · refine wl_yes rfl (o_mov u2 rfl (wl_yes rfl (o_len' (e8.rep (e2.rep r_l)) rfl sl35 rfl (wl_yes rfl (o_leqv rfl rfl (o_pickt (.bool (decide ((l.length : Int) ≤ 10))) rfl rfl (o_asg (.bool (decide ((l.length : Int) ≤ 10))) rfl (wl_nil (?_)))))))))
          exact ret_one Try.func4 rfl rfl (e2.trans e8) ⟨[], _, s8, ⟨rfl, rfl⟩, ((h17.1 c18) (rep_len r_l))⟩
        · refine wl_no rfl (wl_no rfl (wl_no rfl (o_pick0 rfl (o_asg (.bool false) rfl (wl_nil (?_))))))
          exact ret_one Try.func4 rfl rfl (e2.trans e8) ⟨[], _, s8, ⟨rfl, rfl⟩, (h17.2 c18)⟩
      · refine wl_no rfl (wl_no rfl (wl_no rfl (o_pick0 rfl (o_mov (.bool false) rfl (wl_no rfl (wl_no rfl (wl_no rfl (o_pick0 rfl (o_asg (.bool false) rfl (wl_nil (?_)))))))))))
        exact ret_one Try.func4 rfl rfl (e2.trans e8) ⟨[], _, s8, ⟨rfl, rfl⟩, (h15.2 c16)⟩

def vset_Of  (l : List Int) (Q : List Int → Prop) : Prop := Wp Try.prog 11 (sD sN) (l, ()) rO Q
def vset_Of_v  (l : List Int) (Q : List Int → Prop) : Prop := (l.length ≤ 9223372036854775807 → ((0 : Int) ≤ (l.length : Int)) ∧ ((8 * (Int.toNat (l.length : Int)) ≤ 281474976710656) ∧ ((l.length ≤ 9223372036854775807 → Rng1 l.length (fun j4 q4 V4 (out6 : List Int) => (∃ q7 : j4 < l.length, (InR (l[j4]) → (out6.length ≤ 9223372036854775807 → Jn1 (fun (i10 : Int) => InR i10 → (((0 < i10) → (InR (i10 - 1)) ∧ (((0 : Int) ≤ (i10 - 1)) ∧ ((∃ q13 : (Int.toNat (i10 - 1)) < out6.length, (InR (out6[(Int.toNat (i10 - 1))]) → ((((out6[(Int.toNat (i10 - 1))]) = (l[j4])) → V4 out6) ∧ (¬((out6[(Int.toNat (i10 - 1))]) = (l[j4])) → ((out6.length + 1) * 8 ≤ 140737488355328 ∧ (InR (i10 + 1)) ∧ (((0 : Int) ≤ (i10 + 1)) ∧ (((Int.toNat (i10 + 1)) ≤ (out6 ++ [0]).length) ∧ (((0 : Int) ≤ i10) ∧ (((Int.toNat i10) ≤ (out6 ++ [0]).length) ∧ (((Int.toNat (i10 + 1)) = (Int.toNat i10) + 1) ∧ (((Int.toNat i10) + 1 ≤ (out6 ++ [0]).length) ∧ (((0 : Int) ≤ i10) ∧ ((∃ q20 : (Int.toNat i10) < ((out6 ++ [0]).take ((Int.toNat i10) + 1) ++ ((out6 ++ [0]).drop (Int.toNat i10)).take ((out6 ++ [0]).length - ((Int.toNat i10) + 1))).length, V4 (((out6 ++ [0]).take ((Int.toNat i10) + 1) ++ ((out6 ++ [0]).drop (Int.toNat i10)).take ((out6 ++ [0]).length - ((Int.toNat i10) + 1))).set (Int.toNat i10) (l[j4]))))))))))))))))))) ∧ (¬(0 < i10) → ((out6.length + 1) * 8 ≤ 140737488355328 ∧ (InR (i10 + 1)) ∧ (((0 : Int) ≤ (i10 + 1)) ∧ (((Int.toNat (i10 + 1)) ≤ (out6 ++ [0]).length) ∧ (((0 : Int) ≤ i10) ∧ (((Int.toNat i10) ≤ (out6 ++ [0]).length) ∧ (((Int.toNat (i10 + 1)) = (Int.toNat i10) + 1) ∧ (((Int.toNat i10) + 1 ≤ (out6 ++ [0]).length) ∧ (((0 : Int) ≤ i10) ∧ ((∃ q26 : (Int.toNat i10) < ((out6 ++ [0]).take ((Int.toNat i10) + 1) ++ ((out6 ++ [0]).drop (Int.toNat i10)).take ((out6 ++ [0]).length - ((Int.toNat i10) + 1))).length, V4 (((out6 ++ [0]).take ((Int.toNat i10) + 1) ++ ((out6 ++ [0]).drop (Int.toNat i10)).take ((out6 ++ [0]).length - ((Int.toNat i10) + 1))).set (Int.toNat i10) (l[j4]))))))))))))))) (fun M9 => Lp1 (fun V28 (i29 : Int) => InR i29 → (((0 < i29) → (InR (i29 - 1)) ∧ (((0 : Int) ≤ (i29 - 1)) ∧ ((∃ q32 : (Int.toNat (i29 - 1)) < out6.length, (InR (out6[(Int.toNat (i29 - 1))]) → ((((l[j4]) < (out6[(Int.toNat (i29 - 1))])) → (InR (i29 - 1)) ∧ (V28 (i29 - 1))) ∧ (¬((l[j4]) < (out6[(Int.toNat (i29 - 1))])) → M9 i29))))))) ∧ (¬(0 < i29) → M9 i29))) (out6.length : Int)))))) (fun (out6 : List Int) => (out6.length ≤ 9223372036854775807 → (out6.length ≤ 9223372036854775807 → ((0 : Int) ≤ (out6.length : Int)) ∧ (((Int.toNat (out6.length : Int)) ≤ out6.length) ∧ (Q (out6.take (Int.toNat (out6.length : Int)))))))) ([] : List Int)))))
set_option maxHeartbeats 4000000 in
theorem vset_Of_w  {l : List Int} {Q : List Int → Prop} (h : vset_Of_v l Q) : vset_Of l Q := by
  rintro I w T A vs ⟨u0, _, rfl, (r_l : rep I w u0 l), rfl, rfl⟩ s0
  refine ret_of_wt Try.func11 rfl Try.ntmps11 rfl ?_
  refine wt_seq (wt_region (o_assign (wl_nil (wt_seq (wt_region (o_mov u0 rfl (o_len' r_l rfl sl23 rfl (?_))))))))
  have h2 := (h (rep_len r_l))
  refine o_make0 (α := Int) (n := (Int.toNat (l.length : Int))) sl23 s0 rfl rfl (Int.toNat_of_nonneg h2.1).symm (mk_le h2.2.1) h2.2.1 (fun v1 A1 w1 e1 s1 o1 => ?_)
  refine o_asg v1 rfl (wl_nil (wt_seq (wt_seq (wt_region (o_mov u0 rfl (o_len' (e1.rep r_l) rfl sl23 rfl (o_move (wl_nil (wt_block (?_))))))))))
  have h3 := (h2.2.2 (rep_len r_l))
  obtain ⟨V4, z4, b4, k4⟩ := h3
  refine wt_loop (fun n f w4 => ∃ (g : Fr) (I4 : Reg) (j4 : Nat) (A6 : Own) (v6 : Value) (out6 : List Int), f = ov [(3, v6), (10, u0), (11, .int .i64 (l.length : Int)), (12, .int .i64 (j4 : Int))] g ∧ n = l.length - j4 ∧ j4 ≤ l.length ∧ Ext I w1 I4 w4 ∧ St I4 w4 (A6 ++ T) ∧ OwnSl I4 w4 A6 v6 out6 ∧ V4 j4 out6) _ ⟨_, _, 0, A1, v1, ([] : List Int), ov_self _ _ ⟨rfl, rfl, rfl, rfl, trivial⟩, rfl, Nat.zero_le _, Ext.refl _ _, s1, o1, z4⟩ ?_
  rintro n f w4 ⟨g, I4, j4, A6, v6, out6, rfl, rfl, l4, e4, s4, o6, h4⟩ i4
  refine wt_seq (wt_region (o_lssv rfl rfl (wl_nil (wt_seq (wt_condp rfl (fun q4 => ?_) (fun q4 => ?_))))))
  · have y4 := b4 _ (rng_lt q4) _ h4
    have q4n := rng_lt q4
    refine wt_skip (wt_seq (wt_block (wt_seq (wt_region (v_il (j := j4) sl23 (e4.rep (e1.rep r_l)) rfl rfl rfl rfl ty3 y4 (fun q7 a7 v7 r7 h7 => ?_))))))
    obtain ⟨rfl, g7⟩ := rint_in r7
    refine o_asg (.int .i64 (l[j4])) rfl (wl_nil (wt_seq (wt_region (o_mov v6 rfl (o_lenO o6 rfl sl23 rfl (o_asg (.int .i64 (out6.length : Int)) rfl (wl_nil (wt_seq (?_)))))))))
    have h8 := ((h7 g7) o6.bd)
    obtain ⟨M9, k9, h9⟩ := h8
    refine wt_cut (fun f w9 => ∃ (g : Fr) (I9 : Reg) (i10 : Int), f = ov [(3, v6), (5, .int .i64 (l[j4])), (6, .int .i64 i10), (10, u0), (11, .int .i64 (l.length : Int)), (12, .int .i64 (j4 : Int))] g ∧ Ext I4 w4 I9 w9 ∧ St I9 w9 (A6 ++ T) ∧ InR i10 ∧ M9 i10) ?_ ?_
    · rintro f w9 ⟨g, I9, i10, rfl, e9, s9, g10, y9⟩
      have y9 := k9 _ y9 g10
      refine wt_seq (wt_seq (wt_region (o_mov (.int .i64 i10) rfl (o_gtrv rfl rfl (o_mov (.bool (decide (0 < i10))) rfl (wl_casep (d := 33) rfl rfl (fun c11 => ?_) (fun c11 => ?_)))))))
      · refine wl_yes rfl (o_mov v6 rfl (wl_yes rfl (o_mov (.int .i64 i10) rfl (wl_yes rfl (?_)))))
        have h12 := (y9.1 c11)
        refine o_subi rfl rfl h12.1 (wl_yes rfl (?_))
        obtain ⟨q13, h13⟩ := h12.2.2
        obtain ⟨a13, v13, t13, p13, r13, x13⟩ := OwnSl.at (j := (Int.toNat (i10 - 1))) (o6.mono e9) s9 q13 sl23
        refine o_ix x13 rfl rfl (Int.toNat_of_nonneg h12.2.1).symm (wl_yes rfl (o_load ty3 p13 r13 rfl (?_)))
        have r14 := r13
        obtain ⟨rfl, g14⟩ := rint_in r14
        refine wl_yes rfl (o_mov (.int .i64 (l[j4])) rfl (wl_yes rfl (o_eqlv rfl rfl (o_pickt (.bool (decide ((out6[(Int.toNat (i10 - 1))]) = (l[j4])))) rfl rfl (wl_nil (wt_condp rfl (fun c15 => ?_) (fun c15 => ?_)))))))
        · refine wt_exit rfl (wt_region (o_addi rfl rfl (inr_succ0 q4n (rep_len r_l)) (o_mov (.int .i64 ((j4 : Int) + 1)) rfl (wl_nil (?_)))))
          exact i4.out _ _ _ (by omega) ⟨_, _, j4 + 1, A6, v6, out6, ov_self _ _ ⟨rfl, rfl, rfl, rfl, trivial⟩, rfl, q4n, (e4.trans e9), s9, (o6.mono e9), ((h13 g14).1 c15)⟩
        · refine wt_skip (wt_seq (wt_region (o_mov v6 rfl (v_app1 sl23 rfl rfl rfl s9 (o6.mono e9) (rlit (n := 0) (by decide) (by decide)) rfl rfl ((h13 g14).2 c15) rfl (fun u16 v16 A16 I16 w16 e16 s16 o16 l16 h16 => ?_)))))
          refine o_asg v16 rfl (wl_nil (wt_seq (wt_drawS s16 mixed rfl (fun w17 e17 s17 => ?_))))
          refine g_op (i := 0) rfl rfl rfl (by kernel_rfl) rfl ⟨_, e17⟩ (fun w' ⟨I', e'⟩ => o_mov v16 rfl ⟨rfl, rfl⟩) (g_op (i := 1) rfl rfl rfl (by kernel_rfl) rfl ⟨_, e17⟩ (fun w' ⟨I', e'⟩ => o_mov (.int .i64 i10) rfl ⟨rfl, rfl⟩) (g_op (i := 2) rfl rfl rfl (by kernel_rfl) rfl ⟨_, e17⟩ (fun w' ⟨I', e'⟩ => o_addi rfl rfl h16.1 ⟨rfl, rfl⟩) (g_op (i := 3) rfl rfl rfl (by kernel_rfl) rfl ⟨_, e17⟩ (fun w' ⟨I', e'⟩ => o_subP (j := (Int.toNat (i10 + 1))) sl23 o16 h16.2.2.1 rfl rfl (Int.toNat_of_nonneg h16.2.1).symm ⟨rfl, rfl⟩) (g_op (i := 4) rfl rfl rfl (by kernel_rfl) rfl ⟨_, e17⟩ (fun w' ⟨I', e'⟩ => o_mov v16 rfl ⟨rfl, rfl⟩) (g_op (i := 5) rfl rfl rfl (by kernel_rfl) rfl ⟨_, e17⟩ (fun w' ⟨I', e'⟩ => o_mov (.int .i64 i10) rfl ⟨rfl, rfl⟩) (?_))))))
          have h18 := h16.2.2.2.2
          refine g_op (i := 6) rfl rfl rfl (by kernel_rfl) rfl ⟨_, e17⟩ (fun w' ⟨I', e'⟩ => o_subP (j := (Int.toNat i10)) sl23 o16 h18.1 rfl rfl (Int.toNat_of_nonneg h16.2.2.2.1).symm ⟨rfl, rfl⟩) (g_one (i := 7) rfl (by kernel_rfl) rfl (o_copyP (i := (Int.toNat i10)) sl23 (o16.mono e17) s17 h18.2.1 h18.2.2.1 rfl rfl (fun n19 A19 w19 e19 s19 o19 => ?_)))
          refine wl_nil ⟨⟨_, (e17.trans e19)⟩, ?_⟩
          refine g_done (by kernel_rfl) (wt_region (o_mov v16 rfl (o_mov (.int .i64 i10) rfl (o_mov (.int .i64 (l[j4])) rfl (?_)))))
          obtain ⟨q20, h20⟩ := h18.2.2.2.2
          obtain ⟨a20, v20, t20, p20, r20, x20⟩ := OwnSl.at (j := (Int.toNat i10)) o19 s19 q20 sl23
          refine o_ix x20 rfl rfl (Int.toNat_of_nonneg h18.2.2.2.1).symm (o_storeSl o19 s19 t20 q20 ⟨rfl, g7.1, g7.2⟩ ty3 rfl rfl (fun A21 w21 e21 s21 o21 => ?_))
          refine wl_nil (wt_inBlock (wt_region (o_addi rfl rfl (inr_succ0 q4n (rep_len r_l)) (o_mov (.int .i64 ((j4 : Int) + 1)) rfl (wl_nil (?_))))))
          exact i4.out _ _ _ (by omega) ⟨_, _, j4 + 1, A21, v16, (((out6 ++ [0]).take ((Int.toNat i10) + 1) ++ ((out6 ++ [0]).drop (Int.toNat i10)).take ((out6 ++ [0]).length - ((Int.toNat i10) + 1))).set (Int.toNat i10) (l[j4])), ov_self _ _ ⟨rfl, rfl, rfl, rfl, trivial⟩, rfl, q4n, (((((e4.trans e9).trans e16).trans e17).trans e19).trans e21), s21, o21, h20⟩
      · refine wl_no rfl (wl_no rfl (wl_no rfl (wl_no rfl (wl_no rfl (wl_no rfl (wl_no rfl (o_pick0 rfl (wl_nil (wt_false rfl (wt_skip (wt_seq (wt_region (o_mov v6 rfl (v_app1 sl23 rfl rfl rfl s9 (o6.mono e9) (rlit (n := 0) (by decide) (by decide)) rfl rfl (y9.2 c11) rfl (fun u22 v22 A22 I22 w22 e22 s22 o22 l22 h22 => ?_)))))))))))))))
        refine o_asg v22 rfl (wl_nil (wt_seq (wt_drawS s22 mixed rfl (fun w23 e23 s23 => ?_))))
        refine g_op (i := 0) rfl rfl rfl (by kernel_rfl) rfl ⟨_, e23⟩ (fun w' ⟨I', e'⟩ => o_mov v22 rfl ⟨rfl, rfl⟩) (g_op (i := 1) rfl rfl rfl (by kernel_rfl) rfl ⟨_, e23⟩ (fun w' ⟨I', e'⟩ => o_mov (.int .i64 i10) rfl ⟨rfl, rfl⟩) (g_op (i := 2) rfl rfl rfl (by kernel_rfl) rfl ⟨_, e23⟩ (fun w' ⟨I', e'⟩ => o_addi rfl rfl h22.1 ⟨rfl, rfl⟩) (g_op (i := 3) rfl rfl rfl (by kernel_rfl) rfl ⟨_, e23⟩ (fun w' ⟨I', e'⟩ => o_subP (j := (Int.toNat (i10 + 1))) sl23 o22 h22.2.2.1 rfl rfl (Int.toNat_of_nonneg h22.2.1).symm ⟨rfl, rfl⟩) (g_op (i := 4) rfl rfl rfl (by kernel_rfl) rfl ⟨_, e23⟩ (fun w' ⟨I', e'⟩ => o_mov v22 rfl ⟨rfl, rfl⟩) (g_op (i := 5) rfl rfl rfl (by kernel_rfl) rfl ⟨_, e23⟩ (fun w' ⟨I', e'⟩ => o_mov (.int .i64 i10) rfl ⟨rfl, rfl⟩) (?_))))))
        have h24 := h22.2.2.2.2
        refine g_op (i := 6) rfl rfl rfl (by kernel_rfl) rfl ⟨_, e23⟩ (fun w' ⟨I', e'⟩ => o_subP (j := (Int.toNat i10)) sl23 o22 h24.1 rfl rfl (Int.toNat_of_nonneg h22.2.2.2.1).symm ⟨rfl, rfl⟩) (g_one (i := 7) rfl (by kernel_rfl) rfl (o_copyP (i := (Int.toNat i10)) sl23 (o22.mono e23) s23 h24.2.1 h24.2.2.1 rfl rfl (fun n25 A25 w25 e25 s25 o25 => ?_)))
        refine wl_nil ⟨⟨_, (e23.trans e25)⟩, ?_⟩
        refine g_done (by kernel_rfl) (wt_region (o_mov v22 rfl (o_mov (.int .i64 i10) rfl (o_mov (.int .i64 (l[j4])) rfl (?_)))))
        obtain ⟨q26, h26⟩ := h24.2.2.2.2
        obtain ⟨a26, v26, t26, p26, r26, x26⟩ := OwnSl.at (j := (Int.toNat i10)) o25 s25 q26 sl23
        refine o_ix x26 rfl rfl (Int.toNat_of_nonneg h24.2.2.2.1).symm (o_storeSl o25 s25 t26 q26 ⟨rfl, g7.1, g7.2⟩ ty3 rfl rfl (fun A27 w27 e27 s27 o27 => ?_))
        refine wl_nil (wt_inBlock (wt_region (o_addi rfl rfl (inr_succ0 q4n (rep_len r_l)) (o_mov (.int .i64 ((j4 : Int) + 1)) rfl (wl_nil (?_))))))
        exact i4.out _ _ _ (by omega) ⟨_, _, j4 + 1, A27, v22, (((out6 ++ [0]).take ((Int.toNat i10) + 1) ++ ((out6 ++ [0]).drop (Int.toNat i10)).take ((out6 ++ [0]).length - ((Int.toNat i10) + 1))).set (Int.toNat i10) (l[j4])), ov_self _ _ ⟨rfl, rfl, rfl, rfl, trivial⟩, rfl, q4n, (((((e4.trans e9).trans e22).trans e23).trans e25).trans e27), s27, o27, h26⟩
    · intro j9
      refine wt_block (?_)
      obtain ⟨V28, n28, z28, b28⟩ := h9
      refine wt_loop (fun n f w28 => ∃ (g : Fr) (I28 : Reg) (i29 : Int), f = ov [(3, v6), (5, .int .i64 (l[j4])), (6, .int .i64 i29), (10, u0), (11, .int .i64 (l.length : Int)), (12, .int .i64 (j4 : Int))] g ∧ Ext I4 w4 I28 w28 ∧ St I28 w28 (A6 ++ T) ∧ InR i29 ∧ V28 n i29) n28 ⟨_, _, (out6.length : Int), ov_self _ _ ⟨rfl, rfl, rfl, rfl, rfl, rfl, trivial⟩, Ext.refl _ _, s4, (inr_len o6.bd), z28⟩ ?_
      rintro n f w28 ⟨g, I28, i29, rfl, e28, s28, g29, h28⟩ i28
      have y28 := b28 _ _ h28 g29
      refine wt_seq (wt_seq (wt_region (o_mov (.int .i64 i29) rfl (o_gtrv rfl rfl (o_mov (.bool (decide (0 < i29))) rfl (wl_casep (d := 20) rfl rfl (fun c30 => ?_) (fun c30 => ?_)))))))
      · refine wl_yes rfl (o_mov v6 rfl (wl_yes rfl (o_mov (.int .i64 i29) rfl (wl_yes rfl (?_)))))
        have h31 := (y28.1 c30)
        refine o_subi rfl rfl h31.1 (wl_yes rfl (?_))
        obtain ⟨q32, h32⟩ := h31.2.2
        obtain ⟨a32, v32, t32, p32, r32, x32⟩ := OwnSl.at (j := (Int.toNat (i29 - 1))) (o6.mono e28) s28 q32 sl23
        refine o_ix x32 rfl rfl (Int.toNat_of_nonneg h31.2.1).symm (wl_yes rfl (o_load ty3 p32 r32 rfl (?_)))
        have r33 := r32
        obtain ⟨rfl, g33⟩ := rint_in r33
        refine wl_yes rfl (o_mov (.int .i64 (l[j4])) rfl (wl_yes rfl (o_gtrv rfl rfl (o_pickt (.bool (decide ((l[j4]) < (out6[(Int.toNat (i29 - 1))])))) rfl rfl (wl_nil (wt_condp rfl (fun c34 => ?_) (fun c34 => ?_)))))))
        · refine wt_skip (wt_block (wt_region (o_mov (.int .i64 i29) rfl (?_))))
          have h35 := ((h32 g33).1 c34)
          refine o_subi rfl rfl h35.1 (o_asg (.int .i64 (i29 - 1)) rfl (wl_nil (wt_inBlock (?_))))
          obtain ⟨n28, m28, z28⟩ := h35.2
          exact i28.out _ _ _ m28 ⟨_, _, (i29 - 1), ov_self _ _ ⟨rfl, rfl, rfl, rfl, rfl, rfl, trivial⟩, e28, s28, h35.1, z28⟩
        · refine wt_exit rfl (?_)
          exact j9 _ _ ⟨_, _, i29, ov_self _ _ ⟨rfl, rfl, rfl, rfl, rfl, rfl, trivial⟩, e28, s28, g29, ((h32 g33).2 c34)⟩
      · refine wl_no rfl (wl_no rfl (wl_no rfl (wl_no rfl (wl_no rfl (wl_no rfl (wl_no rfl (o_pick0 rfl (wl_nil (wt_false rfl (wt_exit rfl (?_)))))))))))
        exact j9 _ _ ⟨_, _, i29, ov_self _ _ ⟨rfl, rfl, rfl, rfl, rfl, rfl, trivial⟩, e28, s28, g29, (y28.2 c30)⟩
  · have y4 := k4 _ (rng_end (I := fun j => V4 j out6) l4 q4 h4)
    refine wt_exit rfl (wt_seq (wt_region (o_mov v6 rfl (o_mov v6 rfl (o_lenO o6 rfl sl23 rfl (o_mov v6 rfl (o_lenO o6 rfl sl23 rfl (?_))))))))
    have h37 := ((y4 o6.bd) o6.bd)
    refine o_takeO3 (j := (Int.toNat (out6.length : Int))) sl23 o6 rfl rfl rfl (Int.toNat_of_nonneg h37.1).symm (Int.toNat_of_nonneg h37.1).symm h37.2.1 (fun v36 o36 => ?_)
    refine o_asg v36 rfl (wl_nil (?_))
    exact ret_one Try.func11 rfl rfl (e1.trans e4) ⟨A6, _, s4, o36, h37.2.2⟩

def sched_sets  (l : List (List Int)) (Q : List (List Int) → Prop) : Prop := Wp Try.prog 10 (sD sN) (l, ()) rO Q
def sched_sets_v  (l : List (List Int)) (Q : List (List Int) → Prop) : Prop := (l.length ≤ 9223372036854775807 → Rng1 l.length (fun j2 q2 V2 (out3 : List (List Int)) => (∃ q6 : j2 < l.length, vset_Of (l[j2]) (fun (x7 : List Int) => ((out3.length + 1) * 24 ≤ 140737488355328 ∧ V2 (out3 ++ [x7]))))) (fun (out3 : List (List Int)) => Q out3) [])
theorem sched_sets_w  {l : List (List Int)} {Q : List (List Int) → Prop} (h : sched_sets_v l Q) : sched_sets l Q := by
  rintro I w T A vs ⟨u0, _, rfl, (r_l : rep I w u0 l), rfl, rfl⟩ s0
  refine ret_of_wt Try.func10 rfl Try.ntmps10 rfl ?_
  refine wt_seq (wt_region (o_assign (wl_nil (wt_seq (wt_region (o_assign (wl_nil (wt_seq (wt_seq (wt_region (o_mov u0 rfl (o_len' r_l rfl sl22 rfl (o_move (wl_nil (wt_block (?_))))))))))))))))
  have h1 := (h (rep_len r_l))
  obtain ⟨V2, z2, b2, k2⟩ := h1
  refine wt_loop (fun n f w2 => ∃ (g : Fr) (I2 : Reg) (j2 : Nat) (A3 : Own) (v3 : Value) (out3 : List (List Int)), f = ov [(3, v3), (6, u0), (7, .int .i64 (l.length : Int)), (8, .int .i64 (j2 : Int))] g ∧ n = l.length - j2 ∧ j2 ≤ l.length ∧ Ext I w I2 w2 ∧ St I2 w2 (A3 ++ T) ∧ OwnSl I2 w2 A3 v3 out3 ∧ V2 j2 out3) _ ⟨_, _, 0, [], (.slice none 0 0), [], ov_self _ _ ⟨rfl, rfl, rfl, rfl, trivial⟩, rfl, Nat.zero_le _, Ext.refl _ _, s0, OwnSl.nil, z2⟩ ?_
  rintro n f w2 ⟨g, I2, j2, A3, v3, out3, rfl, rfl, l2, e2, s2, o3, h2⟩ i2
  refine wt_seq (wt_region (o_lssv rfl rfl (wl_nil (wt_seq (wt_condp rfl (fun q2 => ?_) (fun q2 => ?_))))))
  · have y2 := b2 _ (rng_lt q2) _ h2
    have q2n := rng_lt q2
    refine wt_skip (wt_seq (wt_block (wt_seq (wt_region (v_il (j := j2) sl22 (e2.rep r_l) rfl rfl rfl rfl ty23 y2 (fun q6 a6 v6 r6 h6 => ?_))))))
    refine o_asg v6 rfl (wl_nil (wt_region (o_mov v3 rfl (o_mov v6 rfl (o_ret cc11 (Wp.c0 h6 ⟨_, _, rfl, r6, rfl, rfl⟩ s2) rfl ?_)))))
    rintro v7 I7 w7 e7 ⟨A7, x7, s7, o7, h7⟩
    obtain ⟨I8, e8, s8, r8⟩ := OwnSl.freeze o7 s7
    refine v_app1 sl22 rfl rfl rfl s8 ((o3.mono e7).mono e8) r8 rfl rfl h7 rfl (fun u9 v9 A9 I9 w9 e9 s9 o9 l9 h9 => ?_)
    refine o_asg v9 rfl (wl_nil (wt_inBlock (wt_region (o_addi rfl rfl (inr_succ0 q2n (rep_len r_l)) (o_mov (.int .i64 ((j2 : Int) + 1)) rfl (wl_nil (?_)))))))
    exact i2.out _ _ _ (by omega) ⟨_, _, j2 + 1, A9, v9, (out3 ++ [x7]), ov_self _ _ ⟨rfl, rfl, rfl, rfl, trivial⟩, rfl, q2n, (((e2.trans e7).trans e8).trans e9), s9, o9, h9⟩
  · have y2 := k2 _ (rng_end (I := fun j => V2 j out3) l2 q2 h2)
    refine wt_exit rfl (wt_seq (wt_region (o_mov v3 rfl (o_asg v3 rfl (wl_nil (?_))))))
    exact ret_one Try.func10 rfl rfl e2 ⟨A3, _, s2, o3, y2⟩

def vset_Has  (l : List Int) (v : Int) (Q : Bool → Prop) : Prop := Wp Try.prog 26 (sD (sD sN)) (l, v, ()) rD Q
def vset_Has_v  (l : List Int) (v : Int) (Q : Bool → Prop) : Prop := (l.length ≤ 9223372036854775807 → Rng0 l.length (fun j2 q2 V2 => (∃ q4 : j2 < l.length, (InR (l[j2]) → ((((l[j2]) = v) → Q true) ∧ (¬((l[j2]) = v) → V2))))) (Q false))
theorem vset_Has_w  {l : List Int} {v : Int} {Q : Bool → Prop} (h : InR v → vset_Has_v l v Q) : vset_Has l v Q := by
  rintro I w T A vs ⟨u0, _, rfl, (r_l : rep I w u0 l), u1, _, rfl, (r_v : rep I w u1 v), rfl, rfl⟩ s0
  obtain ⟨rfl, g_v⟩ := rint_in r_v
  replace h := h g_v
  refine ret_of_wt Try.func26 rfl Try.ntmps26 rfl ?_
  refine wt_seq (wt_region (o_assign (wl_nil (wt_seq (wt_seq (wt_region (o_mov u0 rfl (o_len' r_l rfl sl23 rfl (o_move (wl_nil (wt_block (?_))))))))))))
  have h1 := (h (rep_len r_l))
  obtain ⟨V2, z2, b2, k2⟩ := h1
  refine wt_loop (fun n f w2 => ∃ (g : Fr) (I2 : Reg) (j2 : Nat) , f = ov [(1, .int .i64 v), (7, u0), (8, .int .i64 (l.length : Int)), (9, .int .i64 (j2 : Int))] g ∧ n = l.length - j2 ∧ j2 ≤ l.length ∧ Ext I w I2 w2 ∧ St I2 w2 T ∧ V2 j2 ) _ ⟨_, _, 0, ov_self _ _ ⟨rfl, rfl, rfl, rfl, trivial⟩, rfl, Nat.zero_le _, Ext.refl _ _, s0, z2⟩ ?_
  rintro n f w2 ⟨g, I2, j2, rfl, rfl, l2, e2, s2, h2⟩ i2
  refine wt_seq (wt_region (o_lssv rfl rfl (wl_nil (wt_seq (wt_condp rfl (fun q2 => ?_) (fun q2 => ?_))))))
  · have y2 := b2 _ (rng_lt q2) h2
    have q2n := rng_lt q2
    refine wt_skip (wt_seq (wt_block (wt_seq (wt_region (v_il (j := j2) sl23 (e2.rep r_l) rfl rfl rfl rfl ty3 y2 (fun q4 a4 v4 r4 h4 => ?_))))))
    obtain ⟨rfl, g4⟩ := rint_in r4
    refine o_asg (.int .i64 (l[j2])) rfl (wl_nil (wt_seq (wt_region (o_mov (.int .i64 (l[j2])) rfl (o_mov (.int .i64 v) rfl (o_eqlv rfl rfl (wl_nil (wt_condp rfl (fun c5 => ?_) (fun c5 => ?_)))))))))
    · refine wt_seq (wt_region (o_assign (wl_nil (?_))))
      exact ret_one Try.func26 rfl rfl e2 ⟨[], _, s2, ⟨rfl, rfl⟩, ((h4 g4).1 c5)⟩
    · refine wt_skip (wt_inBlock (wt_region (o_addi rfl rfl (inr_succ0 q2n (rep_len r_l)) (o_mov (.int .i64 ((j2 : Int) + 1)) rfl (wl_nil (?_))))))
      exact i2.out _ _ _ (by omega) ⟨_, _, j2 + 1, ov_self _ _ ⟨rfl, rfl, rfl, rfl, trivial⟩, rfl, q2n, e2, s2, ((h4 g4).2 c5)⟩
  · have y2 := k2 (rng_end (I := fun j => V2 j ) l2 q2 h2)
    refine wt_exit rfl (wt_seq (wt_region (o_assign (wl_nil (?_)))))
    exact ret_one Try.func26 rfl rfl e2 ⟨[], _, s2, ⟨rfl, rfl⟩, y2⟩

def vset_kept  (a : List Int) (b : List Int) (is : Bool) (Q : List Int → Prop) : Prop := Wp Try.prog 24 (sD (sD (sD sN))) (a, b, is, ()) rO Q
def vset_kept_v  (a : List Int) (b : List Int) (is : Bool) (Q : List Int → Prop) : Prop := (a.length ≤ 9223372036854775807 → Rng1 a.length (fun j2 q2 V2 (out4 : List Int) => (∃ q6 : j2 < a.length, (InR (a[j2]) → vset_Has b (a[j2]) (fun (x7 : Bool) => (((x7 == is) = true → ((out4.length + 1) * 8 ≤ 140737488355328 ∧ V2 (out4 ++ [(a[j2])]))) ∧ ((x7 == is) = false → V2 out4)))))) (fun (out4 : List Int) => vset_Of out4 (fun (x11 : List Int) => Q x11)) [])
theorem vset_kept_w  {a : List Int} {b : List Int} {is : Bool} {Q : List Int → Prop} (h : vset_kept_v a b is Q) : vset_kept a b is Q := by
  rintro I w T A vs ⟨u0, _, rfl, (r_a : rep I w u0 a), u1, _, rfl, (r_b : rep I w u1 b), u2, _, rfl, (r_is : rep I w u2 is), rfl, rfl⟩ s0
  obtain rfl : _ = _ := r_is
  refine ret_of_wt Try.func24 rfl Try.ntmps24 rfl ?_
  refine wt_seq (wt_region (o_assign (wl_nil (wt_seq (wt_region (o_assign (wl_nil (wt_seq (wt_seq (wt_region (o_mov u0 rfl (o_len' r_a rfl sl23 rfl (o_move (wl_nil (wt_block (?_))))))))))))))))
  have h1 := (h (rep_len r_a))
  obtain ⟨V2, z2, b2, k2⟩ := h1
  refine wt_loop (fun n f w2 => ∃ (g : Fr) (I2 : Reg) (j2 : Nat) (A4 : Own) (v4 : Value) (out4 : List Int), f = ov [(1, u1), (2, .bool is), (7, v4), (10, u0), (11, .int .i64 (a.length : Int)), (12, .int .i64 (j2 : Int))] g ∧ n = a.length - j2 ∧ j2 ≤ a.length ∧ Ext I w I2 w2 ∧ St I2 w2 (A4 ++ T) ∧ OwnSl I2 w2 A4 v4 out4 ∧ V2 j2 out4) _ ⟨_, _, 0, [], (.slice none 0 0), [], ov_self _ _ ⟨rfl, rfl, rfl, rfl, rfl, rfl, trivial⟩, rfl, Nat.zero_le _, Ext.refl _ _, s0, OwnSl.nil, z2⟩ ?_
  rintro n f w2 ⟨g, I2, j2, A4, v4, out4, rfl, rfl, l2, e2, s2, o4, h2⟩ i2
  refine wt_seq (wt_region (o_lssv rfl rfl (wl_nil (wt_seq (wt_condp rfl (fun q2 => ?_) (fun q2 => ?_))))))
  · have y2 := b2 _ (rng_lt q2) _ h2
    have q2n := rng_lt q2
    refine wt_skip (wt_seq (wt_block (wt_seq (wt_region (v_il (j := j2) sl23 (e2.rep r_a) rfl rfl rfl rfl ty3 y2 (fun q6 a6 v6 r6 h6 => ?_))))))
    obtain ⟨rfl, g6⟩ := rint_in r6
    refine o_asg (.int .i64 (a[j2])) rfl (wl_nil (wt_seq (wt_region (o_mov u1 rfl (o_mov (.int .i64 (a[j2])) rfl (o_ret cc26 (Wp.c0 (h6 g6) ⟨_, _, rfl, (e2.rep r_b), _, _, rfl, ⟨rfl, g6.1, g6.2⟩, rfl, rfl⟩ s2) rfl ?_))))))
    rintro v7 I7 w7 e7 ⟨A7, x7, s7, ⟨rfl, r7⟩, h7⟩
    replace s7 := s7.of_nil
    obtain rfl : _ = _ := r7
    refine o_mov (.bool is) rfl (o_eqb rfl rfl Try.underlying4 (wl_nil (wt_cond rfl (fun c8 => ?_) (fun c8 => ?_))))
    · refine wt_region (o_mov v4 rfl (o_mov (.int .i64 (a[j2])) rfl (v_app1 sl23 rfl rfl rfl s7 (o4.mono e7) ⟨rfl, g6.1, g6.2⟩ rfl rfl (h7.1 c8) rfl (fun u9 v9 A9 I9 w9 e9 s9 o9 l9 h9 => ?_))))
      refine o_asg v9 rfl (wl_nil (wt_inBlock (wt_region (o_addi rfl rfl (inr_succ0 q2n (rep_len r_a)) (o_mov (.int .i64 ((j2 : Int) + 1)) rfl (wl_nil (?_)))))))
      exact i2.out _ _ _ (by omega) ⟨_, _, j2 + 1, A9, v9, (out4 ++ [(a[j2])]), ov_self _ _ ⟨rfl, rfl, rfl, rfl, rfl, rfl, trivial⟩, rfl, q2n, ((e2.trans e7).trans e9), s9, o9, h9⟩
    · refine wt_skip (wt_inBlock (wt_region (o_addi rfl rfl (inr_succ0 q2n (rep_len r_a)) (o_mov (.int .i64 ((j2 : Int) + 1)) rfl (wl_nil (?_))))))
      exact i2.out _ _ _ (by omega) ⟨_, _, j2 + 1, A4, v4, out4, ov_self _ _ ⟨rfl, rfl, rfl, rfl, rfl, rfl, trivial⟩, rfl, q2n, (e2.trans e7), s7, (o4.mono e7), (h7.2 c8)⟩
  · have y2 := k2 _ (rng_end (I := fun j => V2 j out4) l2 q2 h2)
    refine wt_exit rfl (wt_seq (wt_region (o_mov v4 rfl (?_))))
    obtain ⟨e10, s10, r10⟩ := OwnSl.lend o4 s2
    refine o_ret cc11 (Wp.c0 y2 ⟨_, _, rfl, r10, rfl, rfl⟩ s10) rfl ?_
    rintro v11 I11 w11 e11 ⟨A11, x11, s11, o11, h11⟩
    obtain ⟨I12, e12, s12⟩ := St.back2 s2 e11 s11
    replace o11 := o11.flatI (I' := I12) (w' := w11)
    refine o_asg v11 rfl (wl_nil (?_))
    have s13 := s12.rot1
    exact ret_one Try.func24 rfl rfl (e2.trans e12) ⟨A11, _, s13.drop, o11, h11⟩

def vset_Less  (a : List Int) (b : List Int) (Q : List Int → Prop) : Prop := Wp Try.prog 12 (sD (sD sN)) (a, b, ()) rO Q
def vset_Less_v  (a : List Int) (b : List Int) (Q : List Int → Prop) : Prop := vset_kept a b false (fun (x1 : List Int) => Q x1)
theorem vset_Less_w  {a : List Int} {b : List Int} {Q : List Int → Prop} (h : vset_Less_v a b Q) : vset_Less a b Q := by
  rintro I w T A vs ⟨u0, _, rfl, (r_a : rep I w u0 a), u1, _, rfl, (r_b : rep I w u1 b), rfl, rfl⟩ s0
  refine ret_of_wt Try.func12 rfl Try.ntmps12 rfl ?_
  refine wt_seq (wt_region (o_assign (wl_nil (wt_seq (wt_region (o_mov u0 rfl (o_mov u1 rfl (o_ret cc24 (Wp.c0 h ⟨_, _, rfl, r_a, _, _, rfl, r_b, _, _, rfl, rfl, rfl, rfl⟩ s0) rfl ?_))))))))
  rintro v1 I1 w1 e1 ⟨A1, x1, s1, o1, h1⟩
  refine o_asg v1 rfl (wl_nil (?_))
  exact ret_one Try.func12 rfl rfl e1 ⟨A1, _, s1, o1, h1⟩

def vset_Meet  (a : List Int) (b : List Int) (Q : List Int → Prop) : Prop := Wp Try.prog 13 (sD (sD sN)) (a, b, ()) rO Q
def vset_Meet_v  (a : List Int) (b : List Int) (Q : List Int → Prop) : Prop := vset_kept a b true (fun (x1 : List Int) => Q x1)
theorem vset_Meet_w  {a : List Int} {b : List Int} {Q : List Int → Prop} (h : vset_Meet_v a b Q) : vset_Meet a b Q := by
  rintro I w T A vs ⟨u0, _, rfl, (r_a : rep I w u0 a), u1, _, rfl, (r_b : rep I w u1 b), rfl, rfl⟩ s0
  refine ret_of_wt Try.func13 rfl Try.ntmps13 rfl ?_
  refine wt_seq (wt_region (o_assign (wl_nil (wt_seq (wt_region (o_mov u0 rfl (o_mov u1 rfl (o_ret cc24 (Wp.c0 h ⟨_, _, rfl, r_a, _, _, rfl, r_b, _, _, rfl, rfl, rfl, rfl⟩ s0) rfl ?_))))))))
  rintro v1 I1 w1 e1 ⟨A1, x1, s1, o1, h1⟩
  refine o_asg v1 rfl (wl_nil (?_))
  exact ret_one Try.func13 rfl rfl e1 ⟨A1, _, s1, o1, h1⟩

def sched_first_choice  (l : List Sched_choice) (ahead : Sched_choice × Sched_choice × Unit → (Int → Prop) → Prop) (ahead_s : Unit) (Q : Sched_choice → Prop) : Prop := Wp Try.prog 14 (sD (sF Try.prog (fun _ => (sD (sD sN))) (fun _ => rD) noEnv sN)) (l, (ahead, ahead_s), ()) rD Q
def sched_first_choice_v  (l : List Sched_choice) (ahead : Sched_choice × Sched_choice × Unit → (Int → Prop) → Prop) (ahead_s : Unit) (Q : Sched_choice → Prop) : Prop := (∃ q2 : 0 < l.length, (1 ≤ l.length) ∧ (((l.drop 1).length ≤ 9223372036854775807 → Rng3 ((l.drop 1).length) (fun j7 q7 V7 (x8 : Int) (x9 : List Int) (x10 : Int) => InR x8 → InR x10 → (∃ q12 : j7 < (l.drop 1).length, ahead (((l.drop 1)[j7]), (⟨x8, x9, x10⟩ : Sched_choice), ()) (fun (x16 : Int) => InR x16 → (((x16 < 0) → V7 (((l.drop 1)[j7]).part) (((l.drop 1)[j7]).out) (((l.drop 1)[j7]).come)) ∧ (¬(x16 < 0) → V7 x8 x9 x10))))) (fun (x8 : Int) (x9 : List Int) (x10 : Int) => InR x8 → InR x10 → Q (⟨x8, x9, x10⟩ : Sched_choice)) ((l[0]).part) ((l[0]).out) ((l[0]).come))))
theorem sched_first_choice_w  {l : List Sched_choice} {ahead : Sched_choice × Sched_choice × Unit → (Int → Prop) → Prop} {ahead_s : Unit} {Q : Sched_choice → Prop} (h : sched_first_choice_v l ahead ahead_s Q) : sched_first_choice l ahead ahead_s Q := by
  rintro I w T A vs ⟨u0, _, rfl, (r_l : rep I w u0 l), u1, _, _, _, rfl, rfl, f_ahead, _, rfl, rfl, rfl⟩ s0
  simp only [List.append_assoc, List.nil_append] at s0
  refine ret_of_wt Try.func14 rfl Try.ntmps14 rfl ?_
  refine wt_seq (wt_region (o_allocO (z := .agg #[.int .i64 0, .slice none 0 0, .int .i64 0]) (cs := #[.int .i64 0, .slice none 0 0, .int .i64 0]) s0 zr43 rfl (fun bk4 w1 e1 s1 => ?_)))
  refine wl_nil (wt_seq (wt_region (o_mov u0 rfl (v_il (j := 0) sl40 (e1.rep r_l) rfl rfl rfl rfl ty43 h (fun q2 a2 v2 r2 h2 => ?_)))))
  obtain ⟨c2_0, c2_1, c2_2, rfl, rr2_0, r2_1, rr2_2⟩ := open_Sched_choice r2
  obtain ⟨rfl, g2_0⟩ := rint_in rr2_0
  obtain ⟨rfl, g2_2⟩ := rint_in rr2_2
  refine o_allocO (z := .agg #[.int .i64 0, .slice none 0 0, .int .i64 0]) (cs := #[.int .i64 0, .slice none 0 0, .int .i64 0]) s1 zr43 rfl (fun bk5 w3 e3 s3 => ?_)
  refine o_storeB (vs := [.int .i64 ((l[0]).part), c2_1, .int .i64 ((l[0]).come)]) ty43 s3 rfl rfl rfl rfl ⟨rfl, (one1 rfl (e3.rep r2_1)), rfl, trivial⟩ (fun w4 e4 s4 => ?_)
  refine wl_nil (wt_seq (wt_seq (wt_region (o_mov u0 rfl (o_slice_lo (j := 1) sl40 (e4.rep (e3.rep (e1.rep r_l))) rfl rfl rfl h2.1 (fun v5 r5 => ?_))))))
  refine o_len' r5 rfl sl40 rfl (o_move (wl_nil (wt_block (?_))))
  have h6 := (h2.2 (rep_len r5))
  obtain ⟨V7, z7, b7, k7⟩ := h6
  refine wt_loop (fun n f w7 => ∃ (g : Fr) (I7 : Reg) (j7 : Nat) (x8 : Int) (v9 : Value) (x9 : List Int) (x10 : Int), f = ov [(1, u1), (4, .pointer (some ⟨bk4, 0, none⟩)), (5, .pointer (some ⟨bk5, 0, none⟩)), (12, v5), (13, .int .i64 ((l.drop 1).length : Int)), (14, .int .i64 (j7 : Int))] g ∧ n = (l.drop 1).length - j7 ∧ j7 ≤ (l.drop 1).length ∧ Ext I w4 I7 w7 ∧ St I7 w7 ([(bk5, .cells #[.int .i64 x8, v9, .int .i64 x10] 43 (0, 0))] ++ ([(bk4, .cells #[.int .i64 0, .slice none 0 0, .int .i64 0] 43 (0, 0))] ++ T)) ∧ InR x8 ∧ rep I7 w7 v9 x9 ∧ InR x10 ∧ V7 j7 x8 x9 x10) _ ⟨_, _, 0, (l[0]).part, c2_1, (l[0]).out, (l[0]).come, ov_self _ _ ⟨rfl, rfl, rfl, rfl, rfl, rfl, trivial⟩, rfl, Nat.zero_le _, Ext.refl _ _, s4, g2_0, (e4.rep (e3.rep r2_1)), g2_2, z7⟩ ?_
  rintro n f w7 ⟨g, I7, j7, x8, v9, x9, x10, rfl, rfl, l7, e7, s7, g8, r9, g10, h7⟩ i7
  refine wt_seq (wt_region (o_lssv rfl rfl (wl_nil (wt_seq (wt_condp rfl (fun q7 => ?_) (fun q7 => ?_))))))
  · have y7 := b7 _ (rng_lt q7) _ _ _ h7 g8 g10
    have q7n := rng_lt q7
    refine wt_skip (wt_seq (wt_block (wt_seq (wt_region (v_il (j := j7) sl40 (e7.rep r5) rfl rfl rfl rfl ty43 y7 (fun q12 a12 v12 r12 h12 => ?_))))))
    obtain ⟨c12_0, c12_1, c12_2, rfl, rr12_0, r12_1, rr12_2⟩ := open_Sched_choice r12
    obtain ⟨rfl, g12_0⟩ := rint_in rr12_0
    obtain ⟨rfl, g12_2⟩ := rint_in rr12_2
    refine o_allocO (z := .agg #[.int .i64 0, .slice none 0 0, .int .i64 0]) (cs := #[.int .i64 0, .slice none 0 0, .int .i64 0]) s7 zr43 rfl (fun bk7 w13 e13 s13 => ?_)
    refine o_storeB (vs := [.int .i64 (((l.drop 1)[j7]).part), c12_1, .int .i64 (((l.drop 1)[j7]).come)]) ty43 s13 rfl rfl rfl rfl ⟨rfl, (one1 rfl (e13.rep r12_1)), rfl, trivial⟩ (fun w14 e14 s14 => ?_)
    refine wl_nil (wt_seq (wt_region (o_mov u1 rfl (o_loadA (vs := [.int .i64 (((l.drop 1)[j7]).part), c12_1, .int .i64 (((l.drop 1)[j7]).come)]) ty43 s14 rfl rfl rfl (?_)))))
    have s15 := s14.rot1
    refine o_loadA (vs := [.int .i64 x8, v9, .int .i64 x10]) ty43 s15 rfl rfl rfl (o_fv0 ((((((f_ahead.mono e1).mono e3).mono e4).mono e7).mono e13).mono e14) h12 ⟨_, _, rfl, (mk_Sched_choice ⟨rfl, g12_0.1, g12_0.2⟩ (e14.rep (e13.rep r12_1)) ⟨rfl, g12_2.1, g12_2.2⟩), _, _, rfl, (mk_Sched_choice ⟨rfl, g8.1, g8.2⟩ (e14.rep (e13.rep r9)) ⟨rfl, g10.1, g10.2⟩), rfl, rfl⟩ s15 rfl rfl ?_)
    rintro v16 I16 w16 e16 ⟨A16, x16, s16, ⟨rfl, r16⟩, h16⟩
    replace s16 := s16.of_nil
    obtain ⟨rfl, g16⟩ := rint_in r16
    refine o_lssv rfl rfl (wl_nil (wt_condp rfl (fun c17 => ?_) (fun c17 => ?_)))
    · refine wt_region (?_)
      have s18 := s16.rot1
      refine o_loadA (vs := [.int .i64 (((l.drop 1)[j7]).part), c12_1, .int .i64 (((l.drop 1)[j7]).come)]) ty43 s18 rfl rfl rfl (?_)
      have s20 := s18.rot1
      refine o_storeB (vs := [.int .i64 (((l.drop 1)[j7]).part), c12_1, .int .i64 (((l.drop 1)[j7]).come)]) ty43 s20 rfl rfl rfl rfl ⟨rfl, (one1 rfl (e16.rep (e14.rep (e13.rep r12_1)))), rfl, trivial⟩ (fun w19 e19 s19 => ?_)
      refine wl_nil (wt_inBlock (wt_region (o_addi rfl rfl (inr_succ0 q7n (rep_len r5)) (o_mov (.int .i64 ((j7 : Int) + 1)) rfl (wl_nil (?_))))))
      have s21 := s19.rot1
      exact i7.out _ _ _ (by omega) ⟨_, _, j7 + 1, ((l.drop 1)[j7]).part, c12_1, ((l.drop 1)[j7]).out, ((l.drop 1)[j7]).come, ov_self _ _ ⟨rfl, rfl, rfl, rfl, rfl, rfl, trivial⟩, rfl, q7n, ((((e7.trans e13).trans e14).trans e16).trans e19), s21.drop, g12_0, (e19.rep (e16.rep (e14.rep (e13.rep r12_1)))), g12_2, ((h16 g16).1 c17)⟩
    · refine wt_skip (wt_inBlock (wt_region (o_addi rfl rfl (inr_succ0 q7n (rep_len r5)) (o_mov (.int .i64 ((j7 : Int) + 1)) rfl (wl_nil (?_))))))
      have s22 := s16.rot1
      exact i7.out _ _ _ (by omega) ⟨_, _, j7 + 1, x8, v9, x9, x10, ov_self _ _ ⟨rfl, rfl, rfl, rfl, rfl, rfl, trivial⟩, rfl, q7n, (((e7.trans e13).trans e14).trans e16), s22.drop, g8, (e16.rep (e14.rep (e13.rep r9))), g10, ((h16 g16).2 c17)⟩
  · have y7 := k7 _ _ _ (rng_end (I := fun j => V7 j x8 x9 x10) l7 q7 h7) g8 g10
    refine wt_exit rfl (wt_seq (wt_region (o_loadA (vs := [.int .i64 x8, v9, .int .i64 x10]) ty43 s7 rfl rfl rfl (?_))))
    have s24 := s7.rot1
    refine o_storeB (vs := [.int .i64 x8, v9, .int .i64 x10]) ty43 s24 rfl rfl rfl rfl ⟨rfl, (one1 rfl r9), rfl, trivial⟩ (fun w23 e23 s23 => ?_)
    refine wl_nil (?_)
    exact ret_cellA Try.func14 rfl ty43 s23 rfl rfl ((((e1.trans e3).trans e4).trans e7).trans e23) ⟨[], _, s23.drop.drop, ⟨rfl, (mk_Sched_choice ⟨rfl, g8.1, g8.2⟩ (e23.rep r9) ⟨rfl, g10.1, g10.2⟩)⟩, y7⟩

def cmp_Or_int  (vals : List Int) (Q : Int → Prop) : Prop := Wp Try.prog 16 (sD sN) (vals, ()) rD Q
def cmp_Or_int_v  (vals : List Int) (Q : Int → Prop) : Prop := (vals.length ≤ 9223372036854775807 → Rng0 vals.length (fun j2 q2 V2 => (∃ q4 : j2 < vals.length, (InR (vals[j2]) → ((¬((vals[j2]) = 0) → Q (vals[j2])) ∧ (((vals[j2]) = 0) → V2))))) (Q 0))
theorem cmp_Or_int_w  {vals : List Int} {Q : Int → Prop} (h : cmp_Or_int_v vals Q) : cmp_Or_int vals Q := by
  rintro I w T A vs ⟨u0, _, rfl, (r_vals : rep I w u0 vals), rfl, rfl⟩ s0
  refine ret_of_wt Try.func16 rfl Try.ntmps16 rfl ?_
  refine wt_seq (wt_region (o_assign (wl_nil (wt_seq (wt_region (o_assign (wl_nil (wt_seq (wt_seq (wt_region (o_mov u0 rfl (o_len' r_vals rfl sl23 rfl (o_move (wl_nil (wt_block (?_))))))))))))))))
  have h1 := (h (rep_len r_vals))
  obtain ⟨V2, z2, b2, k2⟩ := h1
  refine wt_loop (fun n f w2 => ∃ (g : Fr) (I2 : Reg) (j2 : Nat) , f = ov [(3, .int .i64 0), (6, u0), (7, .int .i64 (vals.length : Int)), (8, .int .i64 (j2 : Int))] g ∧ n = vals.length - j2 ∧ j2 ≤ vals.length ∧ Ext I w I2 w2 ∧ St I2 w2 T ∧ V2 j2 ) _ ⟨_, _, 0, ov_self _ _ ⟨rfl, rfl, rfl, rfl, trivial⟩, rfl, Nat.zero_le _, Ext.refl _ _, s0, z2⟩ ?_
  rintro n f w2 ⟨g, I2, j2, rfl, rfl, l2, e2, s2, h2⟩ i2
  refine wt_seq (wt_region (o_lssv rfl rfl (wl_nil (wt_seq (wt_condp rfl (fun q2 => ?_) (fun q2 => ?_))))))
  · have y2 := b2 _ (rng_lt q2) h2
    have q2n := rng_lt q2
    refine wt_skip (wt_seq (wt_block (wt_seq (wt_region (v_il (j := j2) sl23 (e2.rep r_vals) rfl rfl rfl rfl ty3 y2 (fun q4 a4 v4 r4 h4 => ?_))))))
    obtain ⟨rfl, g4⟩ := rint_in r4
    refine o_asg (.int .i64 (vals[j2])) rfl (wl_nil (wt_seq (wt_region (o_mov (.int .i64 (vals[j2])) rfl (o_mov (.int .i64 0) rfl (o_nev rfl rfl (wl_nil (wt_condn rfl (fun c5 => ?_) (fun c5 => ?_)))))))))
    · refine wt_seq (wt_region (o_mov (.int .i64 (vals[j2])) rfl (o_asg (.int .i64 (vals[j2])) rfl (wl_nil (?_)))))
      exact ret_one Try.func16 rfl rfl e2 ⟨[], _, s2, ⟨rfl, ⟨rfl, g4.1, g4.2⟩⟩, ((h4 g4).1 c5)⟩
    · refine wt_skip (wt_inBlock (wt_region (o_addi rfl rfl (inr_succ0 q2n (rep_len r_vals)) (o_mov (.int .i64 ((j2 : Int) + 1)) rfl (wl_nil (?_))))))
      exact i2.out _ _ _ (by omega) ⟨_, _, j2 + 1, ov_self _ _ ⟨rfl, rfl, rfl, rfl, trivial⟩, rfl, q2n, e2, s2, ((h4 g4).2 c5)⟩
  · have y2 := k2 (rng_end (I := fun j => V2 j ) l2 q2 h2)
    refine wt_exit rfl (wt_seq (wt_region (o_mov (.int .i64 0) rfl (o_asg (.int .i64 0) rfl (wl_nil (?_))))))
    exact ret_one Try.func16 rfl rfl e2 ⟨[], _, s2, ⟨rfl, (rlit (n := 0) (by decide) (by decide))⟩, y2⟩

def cmp_isNaN_int  (x : Int) (Q : Bool → Prop) : Prop := Wp Try.prog 25 (sD sN) (x, ()) rD Q
def cmp_isNaN_int_v  (x : Int) (Q : Bool → Prop) : Prop := Q (decide (¬(x = x)))
theorem cmp_isNaN_int_w  {x : Int} {Q : Bool → Prop} (h : InR x → cmp_isNaN_int_v x Q) : cmp_isNaN_int x Q := by
  rintro I w T A vs ⟨u0, _, rfl, (r_x : rep I w u0 x), rfl, rfl⟩ s0
  obtain ⟨rfl, g_x⟩ := rint_in r_x
  replace h := h g_x
  refine ret_of_wt Try.func25 rfl Try.ntmps25 rfl ?_
  refine wt_seq (wt_region (o_assign (wl_nil (wt_seq (wt_region (o_mov (.int .i64 x) rfl (o_mov (.int .i64 x) rfl (o_nev rfl rfl (o_asg (.bool (decide (¬(x = x)))) rfl (wl_nil (?_)))))))))))
  exact ret_one Try.func25 rfl rfl (Ext.refl _ _) ⟨[], _, s0, ⟨rfl, rfl⟩, h⟩

def cmp_Compare_int  (x : Int) (y : Int) (Q : Int → Prop) : Prop := Wp Try.prog 17 (sD (sD sN)) (x, y, ()) rD Q
def cmp_Compare_int_v  (x : Int) (y : Int) (Q : Int → Prop) : Prop := cmp_isNaN_int x (fun (x1 : Bool) => cmp_isNaN_int y (fun (x2 : Bool) => ((x1 = true → ((x2 = true → Q 0) ∧ (x2 = false → Q (-1)))) ∧ (x1 = false → ((x2 = true → Q 1) ∧ (x2 = false → (((x < y) → Q (-1)) ∧ (¬(x < y) → (((y < x) → Q 1) ∧ (¬(y < x) → Q 0))))))))))
theorem cmp_Compare_int_w  {x : Int} {y : Int} {Q : Int → Prop} (h : InR x → InR y → cmp_Compare_int_v x y Q) : cmp_Compare_int x y Q := by
  rintro I w T A vs ⟨u0, _, rfl, (r_x : rep I w u0 x), u1, _, rfl, (r_y : rep I w u1 y), rfl, rfl⟩ s0
  obtain ⟨rfl, g_x⟩ := rint_in r_x
  obtain ⟨rfl, g_y⟩ := rint_in r_y
  replace h := h g_x g_y
  refine ret_of_wt Try.func17 rfl Try.ntmps17 rfl ?_
  refine wt_seq (wt_region (o_assign (wl_nil (wt_seq (wt_region (o_mov (.int .i64 x) rfl (o_ret cc25 (Wp.c0 h ⟨_, _, rfl, ⟨rfl, g_x.1, g_x.2⟩, rfl, rfl⟩ s0) rfl ?_)))))))
  rintro v1 I1 w1 e1 ⟨A1, x1, s1, ⟨rfl, r1⟩, h1⟩
  replace s1 := s1.of_nil
  obtain rfl : _ = _ := r1
  refine o_asg (.bool x1) rfl (wl_nil (wt_seq (wt_region (o_mov (.int .i64 y) rfl (o_ret cc25 (Wp.c0 h1 ⟨_, _, rfl, ⟨rfl, g_y.1, g_y.2⟩, rfl, rfl⟩ s1) rfl ?_)))))
  rintro v2 I2 w2 e2 ⟨A2, x2, s2, ⟨rfl, r2⟩, h2⟩
  replace s2 := s2.of_nil
  obtain rfl : _ = _ := r2
  refine o_asg (.bool x2) rfl (wl_nil (wt_seq (wt_seq (wt_region (o_mov (.bool x1) rfl (wl_nil (wt_cond rfl (fun c3 => ?_) (fun c3 => ?_))))))))
  · refine wt_seq (wt_seq (wt_region (o_mov (.bool x2) rfl (wl_nil (wt_cond rfl (fun c4 => ?_) (fun c4 => ?_))))))
    · refine wt_seq (wt_region (o_assign (wl_nil (?_))))
      exact ret_one Try.func17 rfl rfl (e1.trans e2) ⟨[], _, s2, ⟨rfl, (rlit (n := 0) (by decide) (by decide))⟩, ((h2.1 c3).1 c4)⟩
    · refine wt_skip (wt_seq (wt_region (o_assign (wl_nil (?_)))))
      exact ret_one Try.func17 rfl rfl (e1.trans e2) ⟨[], _, s2, ⟨rfl, (rlit (n := (-1)) (by decide) (by decide))⟩, ((h2.1 c3).2 c4)⟩
  · refine wt_skip (wt_seq (wt_seq (wt_region (o_mov (.bool x2) rfl (wl_nil (wt_cond rfl (fun c5 => ?_) (fun c5 => ?_)))))))
    · refine wt_seq (wt_region (o_assign (wl_nil (?_))))
      exact ret_one Try.func17 rfl rfl (e1.trans e2) ⟨[], _, s2, ⟨rfl, (rlit (n := 1) (by decide) (by decide))⟩, ((h2.2 c3).1 c5)⟩
    · refine wt_skip (wt_seq (wt_seq (wt_region (o_mov (.int .i64 x) rfl (o_mov (.int .i64 y) rfl (o_lssv rfl rfl (wl_nil (?_))))))))
      have h6 := ((h2.2 c3).2 c5)
      refine wt_condp rfl (fun c7 => ?_) (fun c7 => ?_)
      · refine wt_seq (wt_region (o_assign (wl_nil (?_))))
        exact ret_one Try.func17 rfl rfl (e1.trans e2) ⟨[], _, s2, ⟨rfl, (rlit (n := (-1)) (by decide) (by decide))⟩, (h6.1 c7)⟩
      · refine wt_skip (wt_seq (wt_seq (wt_region (o_mov (.int .i64 x) rfl (o_mov (.int .i64 y) rfl (o_gtrv rfl rfl (wl_nil (wt_condp rfl (fun c8 => ?_) (fun c8 => ?_)))))))))
        · refine wt_seq (wt_region (o_assign (wl_nil (?_))))
          exact ret_one Try.func17 rfl rfl (e1.trans e2) ⟨[], _, s2, ⟨rfl, (rlit (n := 1) (by decide) (by decide))⟩, ((h6.2 c7).1 c8)⟩
        · refine wt_skip (wt_seq (wt_region (o_assign (wl_nil (?_)))))
          exact ret_one Try.func17 rfl rfl (e1.trans e2) ⟨[], _, s2, ⟨rfl, (rlit (n := 0) (by decide) (by decide))⟩, ((h6.2 c7).2 c8)⟩

def sched_Plan_1  (a : Sched_choice) (b : Sched_choice) (Q : Int → Prop) : Prop := Wp Try.prog 15 (sD (sD sN)) (a, b, ()) rD Q
def sched_Plan_1_v  (a : Sched_choice) (b : Sched_choice) (Q : Int → Prop) : Prop := (b.out.length ≤ 9223372036854775807 → (a.out.length ≤ 9223372036854775807 → (InR a.come → (InR b.come → (InR a.part → (InR b.part → cmp_Compare_int (b.out.length : Int) (a.out.length : Int) (fun (x19 : Int) => InR x19 → cmp_Compare_int a.come b.come (fun (x20 : Int) => InR x20 → cmp_Compare_int a.part b.part (fun (x21 : Int) => InR x21 → cmp_Or_int ([x19, x20, x21] : List Int) (fun (x23 : Int) => InR x23 → Q x23))))))))))
theorem sched_Plan_1_w  {a : Sched_choice} {b : Sched_choice} {Q : Int → Prop} (h : sched_Plan_1_v a b Q) : sched_Plan_1 a b Q := by
  rintro I w T A vs ⟨u0, _, rfl, (r_a : rep I w u0 a), u1, _, rfl, (r_b : rep I w u1 b), rfl, rfl⟩ s0
  obtain ⟨c_a_0, c_a_1, c_a_2, rfl, r_a_0, r_a_1, r_a_2⟩ := open_Sched_choice r_a
  obtain ⟨rfl, g_a_0⟩ := rint_in r_a_0
  obtain ⟨rfl, g_a_2⟩ := rint_in r_a_2
  obtain ⟨c_b_0, c_b_1, c_b_2, rfl, r_b_0, r_b_1, r_b_2⟩ := open_Sched_choice r_b
  obtain ⟨rfl, g_b_0⟩ := rint_in r_b_0
  obtain ⟨rfl, g_b_2⟩ := rint_in r_b_2
  refine ret_of_wt Try.func15 rfl Try.ntmps15 rfl ?_
  refine wt_seq (wt_region (o_boxO (cs := #[.int .i64 a.part, c_a_1, .int .i64 a.come]) s0 rfl rfl (fun bk2 w1 e1 s1 => ?_)))
  refine o_boxO (cs := #[.int .i64 b.part, c_b_1, .int .i64 b.come]) s1 rfl rfl (fun bk3 w2 e2 s2 => ?_)
  refine o_assign (wl_nil (wt_seq (?_)))
  obtain ⟨I4, e4, s4, b4, p4, r4⟩ := freeze_blk (v := .agg #[.int .i64 b.part, c_b_1, .int .i64 b.come]) (x := b) s2 rfl (mk_Sched_choice ⟨rfl, g_b_0.1, g_b_0.2⟩ (e2.rep (e1.rep r_b_1)) ⟨rfl, g_b_2.1, g_b_2.2⟩)
  obtain ⟨I5, e5, s5, b5, p5, r5⟩ := freeze_blk (v := .agg #[.int .i64 a.part, c_a_1, .int .i64 a.come]) (x := a) s4 rfl (mk_Sched_choice ⟨rfl, g_a_0.1, g_a_0.2⟩ (e4.rep (e2.rep (e1.rep r_a_1))) ⟨rfl, g_a_2.1, g_a_2.2⟩)
  refine wt_drawS s5 mixed rfl (fun w3 e3 s3 => ?_)
  obtain ⟨v6, r6, p6, q6⟩ := Points.field fld_Sched_choice_1 (p4.mono e5 b4) (e5.rep r4)
  have b6 := blk_of q6 (e5.sub _ b4)
  refine g_op (i := 0) rfl rfl rfl (by kernel_rfl) rfl ⟨_, e3⟩ (fun w' ⟨I', e'⟩ => o_fl fl43_1 rfl ⟨rfl, rfl⟩) (?_)
  have r7 := r6
  refine g_op (i := 1) rfl rfl rfl (by kernel_rfl) rfl ⟨_, e3⟩ (fun w' ⟨I', e'⟩ => o_load ty23 (Points.mono e' b6 p6) (e'.rep r7) rfl ⟨rfl, rfl⟩) (g_op (i := 2) rfl rfl rfl (by kernel_rfl) rfl ⟨_, e3⟩ (fun w' ⟨I', e'⟩ => o_len' (e'.rep r7) rfl sl23 rfl ⟨rfl, rfl⟩) (?_))
  obtain ⟨v8, r8, p8, q8⟩ := Points.field fld_Sched_choice_1 p5 r5
  have b8 := blk_of q8 b5
  refine g_op (i := 3) rfl rfl rfl (by kernel_rfl) rfl ⟨_, e3⟩ (fun w' ⟨I', e'⟩ => o_fl fl43_1 rfl ⟨rfl, rfl⟩) (?_)
  have r9 := r8
  refine g_op (i := 4) rfl rfl rfl (by kernel_rfl) rfl ⟨_, e3⟩ (fun w' ⟨I', e'⟩ => o_load ty23 (Points.mono e' b8 p8) (e'.rep r9) rfl ⟨rfl, rfl⟩) (g_op (i := 5) rfl rfl rfl (by kernel_rfl) rfl ⟨_, e3⟩ (fun w' ⟨I', e'⟩ => o_len' (e'.rep r9) rfl sl23 rfl ⟨rfl, rfl⟩) (?_))
  obtain ⟨v10, r10, p10, q10⟩ := Points.field fld_Sched_choice_2 p5 r5
  have b10 := blk_of q10 b5
  refine g_op (i := 7) rfl rfl rfl (by kernel_rfl) rfl ⟨_, e3⟩ (fun w' ⟨I', e'⟩ => o_fl fl43_2 rfl ⟨rfl, rfl⟩) (?_)
  have r11 := r10
  obtain ⟨rfl, g11⟩ := rint_in r11
  refine g_op (i := 8) rfl rfl rfl (by kernel_rfl) rfl ⟨_, e3⟩ (fun w' ⟨I', e'⟩ => o_load ty3 (Points.mono e' b10 p10) (e'.rep r11) rfl ⟨rfl, rfl⟩) (?_)
  obtain ⟨v12, r12, p12, q12⟩ := Points.field fld_Sched_choice_2 (p4.mono e5 b4) (e5.rep r4)
  have b12 := blk_of q12 (e5.sub _ b4)
  refine g_op (i := 9) rfl rfl rfl (by kernel_rfl) rfl ⟨_, e3⟩ (fun w' ⟨I', e'⟩ => o_fl fl43_2 rfl ⟨rfl, rfl⟩) (?_)
  have r13 := r12
  obtain ⟨rfl, g13⟩ := rint_in r13
  refine g_op (i := 10) rfl rfl rfl (by kernel_rfl) rfl ⟨_, e3⟩ (fun w' ⟨I', e'⟩ => o_load ty3 (Points.mono e' b12 p12) (e'.rep r13) rfl ⟨rfl, rfl⟩) (?_)
  obtain ⟨v14, r14, p14, q14⟩ := Points.field fld_Sched_choice_0 p5 r5
  have b14 := blk_of q14 b5
  refine g_op (i := 12) rfl rfl rfl (by kernel_rfl) rfl ⟨_, e3⟩ (fun w' ⟨I', e'⟩ => o_fl fl43_0 rfl ⟨rfl, rfl⟩) (?_)
  have r15 := r14
  obtain ⟨rfl, g15⟩ := rint_in r15
  refine g_op (i := 13) rfl rfl rfl (by kernel_rfl) rfl ⟨_, e3⟩ (fun w' ⟨I', e'⟩ => o_load ty3 (Points.mono e' b14 p14) (e'.rep r15) rfl ⟨rfl, rfl⟩) (?_)
  obtain ⟨v16, r16, p16, q16⟩ := Points.field fld_Sched_choice_0 (p4.mono e5 b4) (e5.rep r4)
  have b16 := blk_of q16 (e5.sub _ b4)
  refine g_op (i := 14) rfl rfl rfl (by kernel_rfl) rfl ⟨_, e3⟩ (fun w' ⟨I', e'⟩ => o_fl fl43_0 rfl ⟨rfl, rfl⟩) (?_)
  have r17 := r16
  obtain ⟨rfl, g17⟩ := rint_in r17
  refine g_op (i := 15) rfl rfl rfl (by kernel_rfl) rfl ⟨_, e3⟩ (fun w' ⟨I', e'⟩ => o_load ty3 (Points.mono e' b16 p16) (e'.rep r17) rfl ⟨rfl, rfl⟩) (g_one (i := 6) rfl (by kernel_rfl) rfl (?_))
  have h18 := ((((((h (rep_len r7)) (rep_len r9)) g11) g13) g15) g17)
  refine o_ret cc17 (Wp.c0 h18 ⟨_, _, rfl, ⟨rfl, (inr_len (rep_len r7)).1, (inr_len (rep_len r7)).2⟩, _, _, rfl, ⟨rfl, (inr_len (rep_len r9)).1, (inr_len (rep_len r9)).2⟩, rfl, rfl⟩ s3) rfl ?_
  rintro v19 I19 w19 e19 ⟨A19, x19, s19, ⟨rfl, r19⟩, h19⟩
  replace s19 := s19.of_nil
  obtain ⟨rfl, g19⟩ := rint_in r19
  refine wl_nil ⟨⟨_, (e3.trans e19)⟩, ?_⟩
  refine g_one (i := 11) rfl (by kernel_rfl) rfl (o_ret cc17 (Wp.c0 (h19 g19) ⟨_, _, rfl, ⟨rfl, g11.1, g11.2⟩, _, _, rfl, ⟨rfl, g13.1, g13.2⟩, rfl, rfl⟩ s19) rfl ?_)
  rintro v20 I20 w20 e20 ⟨A20, x20, s20, ⟨rfl, r20⟩, h20⟩
  replace s20 := s20.of_nil
  obtain ⟨rfl, g20⟩ := rint_in r20
  refine wl_nil ⟨⟨_, ((e3.trans e19).trans e20)⟩, ?_⟩
  refine g_one (i := 16) rfl (by kernel_rfl) rfl (o_ret cc17 (Wp.c0 (h20 g20) ⟨_, _, rfl, ⟨rfl, g15.1, g15.2⟩, _, _, rfl, ⟨rfl, g17.1, g17.2⟩, rfl, rfl⟩ s20) rfl ?_)
  rintro v21 I21 w21 e21 ⟨A21, x21, s21, ⟨rfl, r21⟩, h21⟩
  replace s21 := s21.of_nil
  obtain ⟨rfl, g21⟩ := rint_in r21
  refine wl_nil ⟨⟨_, (((e3.trans e19).trans e20).trans e21)⟩, ?_⟩
  refine g_one (i := 17) rfl (by kernel_rfl) rfl (o_buildI (xs := ([x19, x20, x21] : List Int)) (vs := [.int .i64 x19, .int .i64 x20, .int .i64 x21]) sl23 s21 rfl ⟨⟨rfl, g19.1, g19.2⟩, ⟨rfl, g20.1, g20.2⟩, ⟨rfl, g21.1, g21.2⟩, trivial⟩ rfl rfl (fun v22 I22 w22 e22 s22 r22 => ?_))
  refine wl_nil ⟨⟨_, ((((e3.trans e19).trans e20).trans e21).trans e22)⟩, ?_⟩
  refine g_one (i := 18) rfl (by kernel_rfl) rfl (o_ret cc16 (Wp.c0 (h21 g21) ⟨_, _, rfl, r22, rfl, rfl⟩ s22) rfl ?_)
  rintro v23 I23 w23 e23 ⟨A23, x23, s23, ⟨rfl, r23⟩, h23⟩
  replace s23 := s23.of_nil
  obtain ⟨rfl, g23⟩ := rint_in r23
  refine wl_nil ⟨⟨_, (((((e3.trans e19).trans e20).trans e21).trans e22).trans e23)⟩, ?_⟩
  refine g_op (i := 19) rfl rfl rfl (by kernel_rfl) rfl ⟨_, (((((e3.trans e19).trans e20).trans e21).trans e22).trans e23)⟩ (fun w' ⟨I', e'⟩ => o_asg (.int .i64 x23) rfl ⟨rfl, rfl⟩) (g_done (by kernel_rfl) (?_))
  exact ret_one Try.func15 rfl rfl (((((((((e1.trans e2).trans e4).trans e5).trans e3).trans e19).trans e20).trans e21).trans e22).trans e23) ⟨[], _, s23, ⟨rfl, ⟨rfl, g23.1, g23.2⟩⟩, (h23 g23)⟩

def vset_Union  (l : List (List Int)) (Q : List Int → Prop) : Prop := Wp Try.prog 18 (sD sN) (l, ()) rO Q
def vset_Union_v  (l : List (List Int)) (Q : List Int → Prop) : Prop := (l.length ≤ 9223372036854775807 → Rng1 l.length (fun j2 q2 V2 (all3 : List Int) => (∃ q6 : j2 < l.length, ((all3.length + (l[j2]).length) * 8 ≤ 140737488355328) ∧ (V2 (all3 ++ (l[j2]))))) (fun (all3 : List Int) => vset_Of all3 (fun (x9 : List Int) => Q x9)) [])
theorem vset_Union_w  {l : List (List Int)} {Q : List Int → Prop} (h : vset_Union_v l Q) : vset_Union l Q := by
  rintro I w T A vs ⟨u0, _, rfl, (r_l : rep I w u0 l), rfl, rfl⟩ s0
  refine ret_of_wt Try.func18 rfl Try.ntmps18 rfl ?_
  refine wt_seq (wt_region (o_assign (wl_nil (wt_seq (wt_region (o_assign (wl_nil (wt_seq (wt_seq (wt_region (o_mov u0 rfl (o_len' r_l rfl sl22 rfl (o_move (wl_nil (wt_block (?_))))))))))))))))
  have h1 := (h (rep_len r_l))
  obtain ⟨V2, z2, b2, k2⟩ := h1
  refine wt_loop (fun n f w2 => ∃ (g : Fr) (I2 : Reg) (j2 : Nat) (A3 : Own) (v3 : Value) (all3 : List Int), f = ov [(3, v3), (6, u0), (7, .int .i64 (l.length : Int)), (8, .int .i64 (j2 : Int))] g ∧ n = l.length - j2 ∧ j2 ≤ l.length ∧ Ext I w I2 w2 ∧ St I2 w2 (A3 ++ T) ∧ OwnSl I2 w2 A3 v3 all3 ∧ V2 j2 all3) _ ⟨_, _, 0, [], (.slice none 0 0), [], ov_self _ _ ⟨rfl, rfl, rfl, rfl, trivial⟩, rfl, Nat.zero_le _, Ext.refl _ _, s0, OwnSl.nil, z2⟩ ?_
  rintro n f w2 ⟨g, I2, j2, A3, v3, all3, rfl, rfl, l2, e2, s2, o3, h2⟩ i2
  refine wt_seq (wt_region (o_lssv rfl rfl (wl_nil (wt_seq (wt_condp rfl (fun q2 => ?_) (fun q2 => ?_))))))
  · have y2 := b2 _ (rng_lt q2) _ h2
    have q2n := rng_lt q2
    refine wt_skip (wt_seq (wt_block (wt_seq (wt_region (v_il (j := j2) sl22 (e2.rep r_l) rfl rfl rfl rfl ty23 y2 (fun q6 a6 v6 r6 h6 => ?_))))))
    refine o_asg v6 rfl (wl_nil (wt_region (o_mov v3 rfl (o_mov v6 rfl (o_append sl23 s2 o3 r6 rfl rfl h6.1 (app_le h6.1) (fun v7 A7 w7 e7 s7 o7 => ?_))))))
    refine o_asg v7 rfl (wl_nil (wt_inBlock (wt_region (o_addi rfl rfl (inr_succ0 q2n (rep_len r_l)) (o_mov (.int .i64 ((j2 : Int) + 1)) rfl (wl_nil (?_)))))))
    exact i2.out _ _ _ (by omega) ⟨_, _, j2 + 1, A7, v7, (all3 ++ (l[j2])), ov_self _ _ ⟨rfl, rfl, rfl, rfl, trivial⟩, rfl, q2n, (e2.trans e7), s7, o7, h6.2⟩
  · have y2 := k2 _ (rng_end (I := fun j => V2 j all3) l2 q2 h2)
    refine wt_exit rfl (wt_seq (wt_region (o_mov v3 rfl (?_))))
    obtain ⟨e8, s8, r8⟩ := OwnSl.lend o3 s2
    refine o_ret cc11 (Wp.c0 y2 ⟨_, _, rfl, r8, rfl, rfl⟩ s8) rfl ?_
    rintro v9 I9 w9 e9 ⟨A9, x9, s9, o9, h9⟩
    obtain ⟨I10, e10, s10⟩ := St.back2 s2 e9 s9
    replace o9 := o9.flatI (I' := I10) (w' := w9)
    refine o_asg v9 rfl (wl_nil (?_))
    have s11 := s10.rot1
    exact ret_one Try.func18 rfl rfl (e2.trans e10) ⟨A9, _, s11.drop, o9, h9⟩

def sched_Plan  (parts : List (List Int)) (out : List Int) (Q : List Sched_Step → Prop) : Prop := Wp Try.prog 6 (sD (sD sN)) (parts, out, ()) rO Q
def sched_Plan_v  (parts : List (List Int)) (out : List Int) (Q : List Sched_Step → Prop) : Prop := sched_sets parts (fun (x1 : List (List Int)) => vset_Of out (fun (x2 : List Int) => (x1.length ≤ 9223372036854775807 → Rng1 x1.length (fun j7 q7 V7 (in9 : List (Int × Int)) => (∃ q10 : j7 < x1.length, ((x1[j7]).length ≤ 9223372036854775807 → Rng1 ((x1[j7]).length) (fun j12 q12 V12 (in14 : List (Int × Int)) => (∃ q15 : j12 < (x1[j7]).length, (InR ((x1[j7])[j12]) → (InR ((mget in14 ((x1[j7])[j12])).getD 0) → (InR (((mget in14 ((x1[j7])[j12])).getD 0) + 1)) ∧ (V12 (mset in14 ((x1[j7])[j12]) (((mget in14 ((x1[j7])[j12])).getD 0) + 1))))))) (fun (in14 : List (Int × Int)) => V7 in14) in9))) (fun (in9 : List (Int × Int)) => (x1.length ≤ 9223372036854775807 → Rng1 x1.length (fun j20 q20 V20 (left21 : List Int) => ((left21.length + 1) * 8 ≤ 140737488355328 ∧ V20 (left21 ++ [(j20 : Int)]))) (fun (left21 : List Int) => (x2.length ≤ 9223372036854775807 → Rng1 x2.length (fun j28 q28 V28 (with29 : List Int) => (∃ q32 : j28 < x2.length, (InR (x2[j28]) → (InR ((mget in9 (x2[j28])).getD 0) → (((((mget in9 (x2[j28])).getD 0) = 0) → ((with29.length + 1) * 8 ≤ 140737488355328 ∧ V28 (with29 ++ [(x2[j28])]))) ∧ (¬(((mget in9 (x2[j28])).getD 0) = 0) → V28 with29)))))) (fun (with29 : List Int) => Lp5 (fun V41 (left42 : List Int) (with43 : List Int) (seen44 : List Int) (steps45 : List Sched_Step) (in46 : List (Int × Int)) => (left42.length ≤ 9223372036854775807 → (((0 < (left42.length : Int)) → (left42.length ≤ 9223372036854775807 → Rng1 left42.length (fun j52 q52 V52 (may53 : List Sched_choice) => (∃ q56 : j52 < left42.length, (InR (left42[j52]) → ((0 : Int) ≤ (left42[j52])) ∧ ((∃ q59 : (Int.toNat (left42[j52])) < x1.length, vset_Less (x1[(Int.toNat (left42[j52]))]) seen44 (fun (x62 : List Int) => (x62.length ≤ 9223372036854775807 → ((0 : Int) ≤ (left42[j52])) ∧ ((∃ q67 : (Int.toNat (left42[j52])) < x1.length, vset_Meet (x1[(Int.toNat (left42[j52]))]) x2 (fun (x68 : List Int) => (x68.length ≤ 9223372036854775807 → Rng1 x68.length (fun j71 q71 V71 (x72 : List Int) => (∃ q76 : j71 < x68.length, (InR (x68[j71]) → (InR ((mget in46 (x68[j71])).getD 0) → (((((mget in46 (x68[j71])).getD 0) = 1) → ((x72.length + 1) * 8 ≤ 140737488355328 ∧ V71 (x72 ++ [(x68[j71])]))) ∧ (¬(((mget in46 (x68[j71])).getD 0) = 1) → V71 x72)))))) (fun (x72 : List Int) => ((may53.length + 1) * 40 ≤ 140737488355328 ∧ V52 (may53 ++ [(⟨(left42[j52]), x72, (x62.length : Int)⟩ : Sched_choice)]))) []))))))))))) (fun (may53 : List Sched_choice) => sched_first_choice may53 (fun (a : Sched_choice × Sched_choice × Unit) Q => sched_Plan_1 a.1 a.2.1 Q) () (fun (x93 : Sched_choice) => (InR x93.part → vset_Union ([x93.out, with43] : List (List Int)) (fun (x105 : List Int) => ((steps45.length + ([(⟨x93.part, x105⟩ : Sched_Step)] : List Sched_Step).length) * 32 ≤ 140737488355328) ∧ ((InR x93.part → ((0 : Int) ≤ x93.part) ∧ ((∃ q112 : (Int.toNat x93.part) < x1.length, vset_Union ([seen44, (x1[(Int.toNat x93.part)])] : List (List Int)) (fun (x116 : List Int) => (InR x93.part → ((0 : Int) ≤ x93.part) ∧ ((∃ q120 : (Int.toNat x93.part) < x1.length, ((x1[(Int.toNat x93.part)]).length ≤ 9223372036854775807 → Rng1 ((x1[(Int.toNat x93.part)]).length) (fun j122 q122 V122 (in124 : List (Int × Int)) => (∃ q125 : j122 < (x1[(Int.toNat x93.part)]).length, (InR ((x1[(Int.toNat x93.part)])[j122]) → (InR ((mget in124 ((x1[(Int.toNat x93.part)])[j122])).getD 0) → (InR (((mget in124 ((x1[(Int.toNat x93.part)])[j122])).getD 0) - 1)) ∧ (V122 (mset in124 ((x1[(Int.toNat x93.part)])[j122]) (((mget in124 ((x1[(Int.toNat x93.part)])[j122])).getD 0) - 1))))))) (fun (in124 : List (Int × Int)) => (InR x93.part → vset_Less left42 ([x93.part] : List Int) (fun (x137 : List Int) => V41 x137 [] x116 (steps45 ++ ([(⟨x93.part, x105⟩ : Sched_Step)] : List Sched_Step)) in124))) in46))))))))))))) [])) ∧ (¬(0 < (left42.length : Int)) → Q steps45)))) left21 with29 [] [] in9) [])) [])) ([] : List (Int × Int)))))
set_option maxHeartbeats 4000000 in
theorem sched_Plan_w  {parts : List (List Int)} {out : List Int} {Q : List Sched_Step → Prop} (h : sched_Plan_v parts out Q) : sched_Plan parts out Q := by
  rintro I w T A vs ⟨u0, _, rfl, (r_parts : rep I w u0 parts), u1, _, rfl, (r_out : rep I w u1 out), rfl, rfl⟩ s0
  refine ret_of_wt Try.func6 rfl Try.ntmps6 rfl ?_
  refine wt_seq (wt_region (o_assign (wl_nil (wt_seq (wt_region (o_mov u0 rfl (o_ret cc10 (Wp.c0 h ⟨_, _, rfl, r_parts, rfl, rfl⟩ s0) rfl ?_)))))))
  rintro v1 I1 w1 e1 ⟨A1, x1, s1, o1, h1⟩
  refine o_mov u1 rfl (o_ret cc11 (Wp.c0 h1 ⟨_, _, rfl, (e1.rep r_out), rfl, rfl⟩ s1) rfl ?_)
  rintro v2 I2 w2 e2 ⟨A2, x2, s2, o2, h2⟩
  refine o_asg v1 rfl (o_asg v2 rfl (wl_nil (wt_seq (wt_region (o_makeMap Int Int s2 (fun v3 A3 w3 e3 s3 o3 => ?_))))))
  refine o_asg v3 rfl (wl_nil (wt_seq (wt_seq (wt_region (o_mov v1 rfl (o_lenO ((o1.mono e2).mono e3) rfl sl22 rfl (o_move (wl_nil (wt_block (?_))))))))))
  have h4 := (h2 o1.bd)
  have s6 := s3.rot2
  obtain ⟨I5, e5, s5, r5⟩ := OwnSl.freeze ((o1.mono e2).mono e3) s6
  obtain ⟨V7, z7, b7, k7⟩ := h4
  refine wt_loop (fun n f w7 => ∃ (g : Fr) (I7 : Reg) (j7 : Nat) (A9 : Own) (v9 : Value) (in9 : List (Int × Int)), f = ov [(5, v1), (6, v2), (7, v9), (33, v1), (34, .int .i64 (x1.length : Int)), (35, .int .i64 (j7 : Int))] g ∧ n = x1.length - j7 ∧ j7 ≤ x1.length ∧ Ext I5 w3 I7 w7 ∧ St I7 w7 (A9 ++ (A2 ++ T)) ∧ OwnMap I7 w7 A9 v9 in9 ∧ V7 j7 in9) _ ⟨_, _, 0, A3, v3, ([] : List (Int × Int)), ov_self _ _ ⟨rfl, rfl, rfl, rfl, rfl, rfl, trivial⟩, rfl, Nat.zero_le _, Ext.refl _ _, s5, (o3.mono e5), z7⟩ ?_
  rintro n f w7 ⟨g, I7, j7, A9, v9, in9, rfl, rfl, l7, e7, s7, o9, h7⟩ i7
  refine wt_seq (wt_region (o_lssv rfl rfl (wl_nil (wt_seq (wt_condp rfl (fun q7 => ?_) (fun q7 => ?_))))))
  · have y7 := b7 _ (rng_lt q7) _ h7
    have q7n := rng_lt q7
    refine wt_skip (wt_seq (wt_block (wt_seq (wt_region (v_il (j := j7) sl22 (e7.rep r5) rfl rfl rfl rfl ty23 y7 (fun q10 a10 v10 r10 h10 => ?_))))))
    refine o_asg v10 rfl (wl_nil (wt_seq (wt_region (o_mov v10 rfl (o_len' r10 rfl sl23 rfl (o_move (wl_nil (wt_block (?_)))))))))
    have h11 := (h10 (rep_len r10))
    obtain ⟨V12, z12, b12, k12⟩ := h11
    refine wt_loop (fun n f w12 => ∃ (g : Fr) (I12 : Reg) (j12 : Nat) (A14 : Own) (v14 : Value) (in14 : List (Int × Int)), f = ov [(5, v1), (6, v2), (7, v14), (33, v1), (34, .int .i64 (x1.length : Int)), (35, .int .i64 (j7 : Int)), (39, v10), (40, .int .i64 ((x1[j7]).length : Int)), (41, .int .i64 (j12 : Int))] g ∧ n = (x1[j7]).length - j12 ∧ j12 ≤ (x1[j7]).length ∧ Ext I7 w7 I12 w12 ∧ St I12 w12 (A14 ++ (A2 ++ T)) ∧ OwnMap I12 w12 A14 v14 in14 ∧ V12 j12 in14) _ ⟨_, _, 0, A9, v9, in9, ov_self _ _ ⟨rfl, rfl, rfl, rfl, rfl, rfl, rfl, rfl, rfl, trivial⟩, rfl, Nat.zero_le _, Ext.refl _ _, s7, o9, z12⟩ ?_
    rintro n f w12 ⟨g, I12, j12, A14, v14, in14, rfl, rfl, l12, e12, s12, o14, h12⟩ i12
    refine wt_seq (wt_region (o_lssv rfl rfl (wl_nil (wt_seq (wt_condp rfl (fun q12 => ?_) (fun q12 => ?_))))))
    · have y12 := b12 _ (rng_lt q12) _ h12
      have q12n := rng_lt q12
      refine wt_skip (wt_seq (wt_block (wt_seq (wt_region (v_il (j := j12) sl23 (e12.rep r10) rfl rfl rfl rfl ty3 y12 (fun q15 a15 v15 r15 h15 => ?_))))))
      obtain ⟨rfl, g15⟩ := rint_in r15
      refine o_asg (.int .i64 ((x1[j7])[j12])) rfl (wl_nil (wt_region (o_mov v14 rfl (o_mov (.int .i64 ((x1[j7])[j12])) rfl (o_lookup (zv := .int .i64 0) (zd := (0 : Int)) mt39 o14 s12 rfl rfl ⟨rfl, g15.1, g15.2⟩ (zv3 _) ⟨rfl, by decide, by decide⟩ (fun v16 r16 => ?_))))))
      obtain ⟨rfl, g16⟩ := rint_in r16
      have h17 := ((h15 g15) g16)
      refine o_addi rfl rfl h17.1 (o_mapSet mt39 o14 s12 rfl rfl rfl ⟨rfl, g15.1, g15.2⟩ ⟨rfl, h17.1.1, h17.1.2⟩ (fun A18 w18 e18 s18 o18 => ?_))
      refine wl_nil (wt_inBlock (wt_region (o_addi rfl rfl (inr_succ0 q12n (rep_len r10)) (o_mov (.int .i64 ((j12 : Int) + 1)) rfl (wl_nil (?_))))))
      exact i12.out _ _ _ (by omega) ⟨_, _, j12 + 1, A18, v14, (mset in14 ((x1[j7])[j12]) (((mget in14 ((x1[j7])[j12])).getD 0) + 1)), ov_self _ _ ⟨rfl, rfl, rfl, rfl, rfl, rfl, rfl, rfl, rfl, trivial⟩, rfl, q12n, (e12.trans e18), s18, o18, h17.2⟩
    · have y12 := k12 _ (rng_end (I := fun j => V12 j in14) l12 q12 h12)
      refine wt_exit rfl (wt_inBlock (wt_region (o_addi rfl rfl (inr_succ0 q7n o1.bd) (o_mov (.int .i64 ((j7 : Int) + 1)) rfl (wl_nil (?_))))))
      exact i7.out _ _ _ (by omega) ⟨_, _, j7 + 1, A14, v14, in14, ov_self _ _ ⟨rfl, rfl, rfl, rfl, rfl, rfl, trivial⟩, rfl, q7n, (e7.trans e12), s12, o14, y12⟩
  · have y7 := k7 _ (rng_end (I := fun j => V7 j in9) l7 q7 h7)
    refine wt_exit rfl (wt_seq (wt_region (o_assign (wl_nil (wt_seq (wt_seq (wt_region (o_mov v1 rfl (o_len' (e7.rep r5) rfl sl22 rfl (o_move (wl_nil (wt_block (?_)))))))))))))
    have h19 := (y7 o1.bd)
    obtain ⟨V20, z20, b20, k20⟩ := h19
    refine wt_loop (fun n f w20 => ∃ (g : Fr) (I20 : Reg) (j20 : Nat) (A21 : Own) (v21 : Value) (left21 : List Int), f = ov [(5, v1), (6, v2), (7, v9), (12, v21), (52, .int .i64 (x1.length : Int)), (53, .int .i64 (j20 : Int))] g ∧ n = x1.length - j20 ∧ j20 ≤ x1.length ∧ Ext I7 w7 I20 w20 ∧ St I20 w20 (A21 ++ (A9 ++ (A2 ++ T))) ∧ OwnSl I20 w20 A21 v21 left21 ∧ V20 j20 left21) _ ⟨_, _, 0, [], (.slice none 0 0), [], ov_self _ _ ⟨rfl, rfl, rfl, rfl, rfl, rfl, trivial⟩, rfl, Nat.zero_le _, Ext.refl _ _, s7, OwnSl.nil, z20⟩ ?_
    rintro n f w20 ⟨g, I20, j20, A21, v21, left21, rfl, rfl, l20, e20, s20, o21, h20⟩ i20
    refine wt_seq (wt_region (o_lssv rfl rfl (wl_nil (wt_seq (wt_condp rfl (fun q20 => ?_) (fun q20 => ?_))))))
    · have y20 := b20 _ (rng_lt q20) _ h20
      have q20n := rng_lt q20
      refine wt_skip (wt_seq (wt_block (wt_seq (wt_region (o_mov (.int .i64 (j20 : Int)) rfl (o_asg (.int .i64 (j20 : Int)) rfl (wl_nil (wt_region (o_mov v21 rfl (o_mov (.int .i64 (j20 : Int)) rfl (v_app1 sl23 rfl rfl rfl s20 o21 ⟨rfl, (inr_nat l20 o1.bd).1, (inr_nat l20 o1.bd).2⟩ rfl rfl y20 rfl (fun u24 v24 A24 I24 w24 e24 s24 o24 l24 h24 => ?_))))))))))))
      refine o_asg v24 rfl (wl_nil (wt_inBlock (wt_region (o_addi rfl rfl (inr_succ0 q20n o1.bd) (o_mov (.int .i64 ((j20 : Int) + 1)) rfl (wl_nil (?_)))))))
      exact i20.out _ _ _ (by omega) ⟨_, _, j20 + 1, A24, v24, (left21 ++ [(j20 : Int)]), ov_self _ _ ⟨rfl, rfl, rfl, rfl, rfl, rfl, trivial⟩, rfl, q20n, (e20.trans e24), s24, o24, h24⟩
    · have y20 := k20 _ (rng_end (I := fun j => V20 j left21) l20 q20 h20)
      refine wt_exit rfl (wt_seq (wt_region (o_assign (wl_nil (wt_seq (wt_seq (wt_region (o_mov v2 rfl (o_lenO ((((o2.mono e3).mono e5).mono e7).mono e20) rfl sl23 rfl (o_move (wl_nil (wt_block (?_)))))))))))))
      have h25 := (y20 o2.bd)
      have s27 := s20.rot2
      obtain ⟨I26, e26, s26, r26⟩ := OwnSl.freeze ((((o2.mono e3).mono e5).mono e7).mono e20) s27
      obtain ⟨V28, z28, b28, k28⟩ := h25
      refine wt_loop (fun n f w28 => ∃ (g : Fr) (I28 : Reg) (j28 : Nat) (A29 : Own) (v29 : Value) (with29 : List Int), f = ov [(5, v1), (6, v2), (7, v9), (12, v21), (14, v29), (61, v2), (62, .int .i64 (x2.length : Int)), (63, .int .i64 (j28 : Int))] g ∧ n = x2.length - j28 ∧ j28 ≤ x2.length ∧ Ext I26 w20 I28 w28 ∧ St I28 w28 (A29 ++ (A21 ++ (A9 ++ T))) ∧ OwnSl I28 w28 A29 v29 with29 ∧ V28 j28 with29) _ ⟨_, _, 0, [], (.slice none 0 0), [], ov_self _ _ ⟨rfl, rfl, rfl, rfl, rfl, rfl, rfl, rfl, trivial⟩, rfl, Nat.zero_le _, Ext.refl _ _, s26, OwnSl.nil, z28⟩ ?_
      rintro n f w28 ⟨g, I28, j28, A29, v29, with29, rfl, rfl, l28, e28, s28, o29, h28⟩ i28
      refine wt_seq (wt_region (o_lssv rfl rfl (wl_nil (wt_seq (wt_condp rfl (fun q28 => ?_) (fun q28 => ?_))))))
      · have y28 := b28 _ (rng_lt q28) _ h28
        have q28n := rng_lt q28
        refine wt_skip (wt_seq (wt_block (wt_seq (wt_region (v_il (j := j28) sl23 (e28.rep r26) rfl rfl rfl rfl ty3 y28 (fun q32 a32 v32 r32 h32 => ?_))))))
        obtain ⟨rfl, g32⟩ := rint_in r32
        refine o_asg (.int .i64 (x2[j28])) rfl (wl_nil (wt_seq (wt_region (o_mov v9 rfl (o_mov (.int .i64 (x2[j28])) rfl (?_))))))
        have s34 := s28.rot2
        refine o_lookup (zv := .int .i64 0) (zd := (0 : Int)) mt39 (((o9.mono e20).mono e26).mono e28) s34 rfl rfl ⟨rfl, g32.1, g32.2⟩ (zv3 _) ⟨rfl, by decide, by decide⟩ (fun v33 r33 => ?_)
        obtain ⟨rfl, g33⟩ := rint_in r33
        refine o_eqlv rfl rfl (wl_nil (?_))
        have h35 := ((h32 g32) g33)
        refine wt_condp rfl (fun c36 => ?_) (fun c36 => ?_)
        · refine wt_region (o_mov v29 rfl (o_mov (.int .i64 (x2[j28])) rfl (?_)))
          have s38 := s34.rot1
          refine v_app1 sl23 rfl rfl rfl s38 o29 ⟨rfl, g32.1, g32.2⟩ rfl rfl (h35.1 c36) rfl (fun u37 v37 A37 I37 w37 e37 s37 o37 l37 h37 => ?_)
          refine o_asg v37 rfl (wl_nil (wt_inBlock (wt_region (o_addi rfl rfl (inr_succ0 q28n o2.bd) (o_mov (.int .i64 ((j28 : Int) + 1)) rfl (wl_nil (?_)))))))
          have s39 := s37.rot2.rot1
          exact i28.out _ _ _ (by omega) ⟨_, _, j28 + 1, A37, v37, (with29 ++ [(x2[j28])]), ov_self _ _ ⟨rfl, rfl, rfl, rfl, rfl, rfl, rfl, rfl, trivial⟩, rfl, q28n, (e28.trans e37), s39, o37, h37⟩
        · refine wt_skip (wt_inBlock (wt_region (o_addi rfl rfl (inr_succ0 q28n o2.bd) (o_mov (.int .i64 ((j28 : Int) + 1)) rfl (wl_nil (?_))))))
          have s40 := s34.rot2.rot2
          exact i28.out _ _ _ (by omega) ⟨_, _, j28 + 1, A29, v29, with29, ov_self _ _ ⟨rfl, rfl, rfl, rfl, rfl, rfl, rfl, rfl, trivial⟩, rfl, q28n, e28, s40, o29, (h35.2 c36)⟩
      · have y28 := k28 _ (rng_end (I := fun j => V28 j with29) l28 q28 h28)
        refine wt_exit rfl (wt_seq (wt_region (o_assign (wl_nil (wt_seq (wt_region (o_assign (wl_nil (wt_seq (wt_block (?_)))))))))))
        obtain ⟨V41, n41, z41, b41⟩ := y28
        refine wt_loop (fun n f w41 => ∃ (g : Fr) (I41 : Reg) (A42 : Own) (v42 : Value) (left42 : List Int) (A43 : Own) (v43 : Value) (with43 : List Int) (A44 : Own) (v44 : Value) (seen44 : List Int) (A45 : Own) (v45 : Value) (steps45 : List Sched_Step) (A46 : Own) (v46 : Value) (in46 : List (Int × Int)), f = ov [(5, v1), (6, v2), (7, v46), (12, v42), (14, v43), (17, v44), (18, v45)] g ∧ Ext I28 w28 I41 w41 ∧ St I41 w41 (A45 ++ (A44 ++ (A43 ++ (A42 ++ (A46 ++ T))))) ∧ OwnSl I41 w41 A42 v42 left42 ∧ OwnSl I41 w41 A43 v43 with43 ∧ OwnSl I41 w41 A44 v44 seen44 ∧ OwnSl I41 w41 A45 v45 steps45 ∧ OwnMap I41 w41 A46 v46 in46 ∧ V41 n left42 with43 seen44 steps45 in46) n41 ⟨_, _, A21, v21, left21, A29, v29, with29, [], (.slice none 0 0), [], [], (.slice none 0 0), [], A9, v9, in9, ov_self _ _ ⟨rfl, rfl, rfl, rfl, rfl, rfl, rfl, trivial⟩, Ext.refl _ _, s28, ((o21.mono e26).mono e28), o29, OwnSl.nil, OwnSl.nil, (((o9.mono e20).mono e26).mono e28), z41⟩ ?_
        rintro n f w41 ⟨g, I41, A42, v42, left42, A43, v43, with43, A44, v44, seen44, A45, v45, steps45, A46, v46, in46, rfl, e41, s41, o42, o43, o44, o45, o46, h41⟩ i41
        have y41 := b41 _ _ _ _ _ _ h41
        refine wt_seq (wt_seq (wt_region (o_mov v42 rfl (o_lenO o42 rfl sl23 rfl (o_gtrv rfl rfl (wl_nil (?_)))))))
        have h49 := (y41 o42.bd)
        refine wt_condp rfl (fun c50 => ?_) (fun c50 => ?_)
        · refine wt_skip (wt_block (wt_seq (wt_region (o_assign (wl_nil (wt_seq (wt_seq (wt_region (o_mov v42 rfl (o_lenO o42 rfl sl23 rfl (o_move (wl_nil (wt_block (?_))))))))))))))
          have h51 := ((h49.1 c50) o42.bd)
          obtain ⟨V52, z52, b52, k52⟩ := h51
          refine wt_loop (fun n f w52 => ∃ (g : Fr) (I52 : Reg) (j52 : Nat) (A53 : Own) (v53 : Value) (may53 : List Sched_choice), f = ov [(5, v1), (6, v2), (7, v46), (12, v42), (14, v43), (17, v44), (18, v45), (19, v53), (79, v42), (80, .int .i64 (left42.length : Int)), (81, .int .i64 (j52 : Int))] g ∧ n = left42.length - j52 ∧ j52 ≤ left42.length ∧ Ext I41 w41 I52 w52 ∧ St I52 w52 (A53 ++ (A45 ++ (A44 ++ (A43 ++ (A42 ++ (A46 ++ T)))))) ∧ OwnSl I52 w52 A53 v53 may53 ∧ V52 j52 may53) _ ⟨_, _, 0, [], (.slice none 0 0), [], ov_self _ _ ⟨rfl, rfl, rfl, rfl, rfl, rfl, rfl, rfl, rfl, rfl, rfl, trivial⟩, rfl, Nat.zero_le _, Ext.refl _ _, s41, OwnSl.nil, z52⟩ ?_
          rintro n f w52 ⟨g, I52, j52, A53, v53, may53, rfl, rfl, l52, e52, s52, o53, h52⟩ i52
          refine wt_seq (wt_region (o_lssv rfl rfl (wl_nil (wt_seq (wt_condp rfl (fun q52 => ?_) (fun q52 => ?_))))))
          · have y52 := b52 _ (rng_lt q52) _ h52
            have q52n := rng_lt q52
            refine wt_skip (wt_seq (wt_block (wt_seq (wt_region (?_)))))
            have s57 := s52.rot4
            obtain ⟨q56, h56⟩ := y52
            obtain ⟨a56, v56, t56, p56, r56, x56⟩ := OwnSl.at (j := j52) (o42.mono e52) s57 q56 sl23
            refine o_ix x56 rfl rfl rfl (o_load ty3 p56 r56 rfl (?_))
            have r58 := r56
            obtain ⟨rfl, g58⟩ := rint_in r58
            refine o_asg (.int .i64 (left42[j52])) rfl (wl_nil (wt_seq (wt_region (o_mov (.int .i64 (left42[j52])) rfl (o_mov v1 rfl (o_mov (.int .i64 (left42[j52])) rfl (v_il (j := (Int.toNat (left42[j52]))) sl22 (e52.rep (e41.rep (e28.rep (e26.rep (e20.rep (e7.rep r5)))))) rfl rfl (Int.toNat_of_nonneg (h56 g58).1).symm rfl ty23 (h56 g58).2 (fun q59 a59 v59 r59 h59 => ?_))))))))
            refine o_mov v44 rfl (?_)
            have s61 := s57.rot3
            obtain ⟨e60, s60, r60⟩ := OwnSl.lend (o44.mono e52) s61
            refine o_ret cc12 (Wp.c0 h59 ⟨_, _, rfl, (e60.rep r59), _, _, rfl, r60, rfl, rfl⟩ s60) rfl ?_
            rintro v62 I62 w62 e62 ⟨A62, x62, s62, o62, h62⟩
            obtain ⟨I63, e63, s63⟩ := St.back2 s61 e62 s62
            replace o62 := o62.flatI (I' := I63) (w' := w62)
            refine o_lenO o62 rfl sl23 rfl (o_buildS (lc := [(0, #[.int .i64 (left42[j52])]), (2, #[.int .i64 (x62.length : Int)])]) (vs := #[.int .i64 (left42[j52]), .slice none 0 0, .int .i64 (x62.length : Int)]) bd43 ⟨_, Try.underlying43⟩ ⟨rfl, rfl, rfl, rfl, trivial⟩ rfl (o_allocO (z := .agg #[.int .i64 0, .slice none 0 0, .int .i64 0]) (cs := #[.int .i64 0, .slice none 0 0, .int .i64 0]) s63 zr43 rfl (fun bk22 w64 e64 s64 => ?_)))
            refine o_storeB (vs := [.int .i64 (left42[j52]), .slice none 0 0, .int .i64 (x62.length : Int)]) ty43 s64 rfl rfl rfl rfl ⟨rfl, rfl, rfl, trivial⟩ (fun w65 e65 s65 => ?_)
            refine wl_nil (wt_seq (wt_seq (wt_region (o_mov v1 rfl (o_mov (.int .i64 (left42[j52])) rfl (?_))))))
            have h66 := (h62 o62.bd)
            refine v_il (j := (Int.toNat (left42[j52]))) sl22 (e65.rep (e64.rep (e63.rep (e52.rep (e41.rep (e28.rep (e26.rep (e20.rep (e7.rep r5))))))))) rfl rfl (Int.toNat_of_nonneg h66.1).symm rfl ty23 h66.2 (fun q67 a67 v67 r67 h67 => ?_)
            refine o_mov v2 rfl (o_ret cc13 (Wp.c0 h67 ⟨_, _, rfl, r67, _, _, rfl, (e65.rep (e64.rep (e63.rep (e52.rep (e41.rep (e28.rep r26)))))), rfl, rfl⟩ s65) rfl ?_)
            rintro v68 I68 w68 e68 ⟨A68, x68, s68, o68, h68⟩
            refine o_lenO o68 rfl sl23 rfl (o_move (wl_nil (wt_block (?_))))
            have h69 := (h68 o68.bd)
            obtain ⟨I70, e70, s70, r70⟩ := OwnSl.freeze o68 s68
            have s75 := s70.rot1
            obtain ⟨V71, z71, b71, k71⟩ := h69
            refine wt_loop (fun n f w71 => ∃ (g : Fr) (I71 : Reg) (j71 : Nat) (A72 : Own) (v72 : Value) (x72 : List Int), f = ov [(5, v1), (6, v2), (7, v46), (12, v42), (14, v43), (17, v44), (18, v45), (19, v53), (22, .pointer (some ⟨bk22, 0, none⟩)), (79, v42), (80, .int .i64 (left42.length : Int)), (81, .int .i64 (j52 : Int)), (99, v68), (100, .int .i64 (x68.length : Int)), (101, .int .i64 (j71 : Int))] g ∧ n = x68.length - j71 ∧ j71 ≤ x68.length ∧ Ext I70 w68 I71 w71 ∧ St I71 w71 (A72 ++ ([(bk22, .cells #[.int .i64 (left42[j52]), v72, .int .i64 (x62.length : Int)] 43 (0, 0))] ++ (A44 ++ (A42 ++ (A53 ++ (A45 ++ (A43 ++ (A46 ++ T)))))))) ∧ OwnSl I71 w71 A72 v72 x72 ∧ V71 j71 x72) _ ⟨_, _, 0, [], (.slice none 0 0), [], ov_self _ _ ⟨rfl, rfl, rfl, rfl, rfl, rfl, rfl, rfl, rfl, rfl, rfl, rfl, rfl, rfl, rfl, trivial⟩, rfl, Nat.zero_le _, Ext.refl _ _, s75.drop, OwnSl.nil, z71⟩ ?_
            rintro n f w71 ⟨g, I71, j71, A72, v72, x72, rfl, rfl, l71, e71, s71, o72, h71⟩ i71
            refine wt_seq (wt_region (o_lssv rfl rfl (wl_nil (wt_seq (wt_condp rfl (fun q71 => ?_) (fun q71 => ?_))))))
            · have y71 := b71 _ (rng_lt q71) _ h71
              have q71n := rng_lt q71
              refine wt_skip (wt_seq (wt_block (wt_seq (wt_region (v_il (j := j71) sl23 (e71.rep r70) rfl rfl rfl rfl ty3 y71 (fun q76 a76 v76 r76 h76 => ?_))))))
              obtain ⟨rfl, g76⟩ := rint_in r76
              refine o_asg (.int .i64 (x68[j71])) rfl (wl_nil (wt_seq (wt_region (o_mov v46 rfl (o_mov (.int .i64 (x68[j71])) rfl (?_))))))
              have s78 := s71.rot7
              refine o_lookup (zv := .int .i64 0) (zd := (0 : Int)) mt39 (((((((o46.mono e52).mono e63).mono e64).mono e65).mono e68).mono e70).mono e71) s78 rfl rfl ⟨rfl, g76.1, g76.2⟩ (zv3 _) ⟨rfl, by decide, by decide⟩ (fun v77 r77 => ?_)
              obtain ⟨rfl, g77⟩ := rint_in r77
              refine o_eqlv rfl rfl (wl_nil (?_))
              have h79 := ((h76 g76) g77)
              refine wt_condp rfl (fun c80 => ?_) (fun c80 => ?_)
              · refine wt_region (o_fieldO fl43_1 rfl (?_))
                have s81 := s78.rot2
                refine o_loadO (v := v72) ty23 s81 rfl rfl (o_mov (.int .i64 (x68[j71])) rfl (?_))
                have s83 := s81.rot2
                refine v_app1 sl23 rfl rfl rfl s83 o72 ⟨rfl, g76.1, g76.2⟩ rfl rfl (h79.1 c80) rfl (fun u82 v82 A82 I82 w82 e82 s82 o82 l82 h82 => ?_)
                refine o_fieldO fl43_1 rfl (?_)
                have s85 := s82.rot1
                refine o_storeX (cs' := #[.int .i64 (left42[j52]), v82, .int .i64 (x62.length : Int)]) ty23 s85 rfl rfl o82.one rfl rfl (fun w84 e84 s84 => ?_)
                refine wl_nil (wt_inBlock (wt_region (o_addi rfl rfl (inr_succ0 q71n o68.bd) (o_mov (.int .i64 ((j71 : Int) + 1)) rfl (wl_nil (?_))))))
                have s86 := s84.rot7.rot7.rot7.rot7.rot7.rot5.rot6
                exact i71.out _ _ _ (by omega) ⟨_, _, j71 + 1, A82, v82, (x72 ++ [(x68[j71])]), ov_self _ _ ⟨rfl, rfl, rfl, rfl, rfl, rfl, rfl, rfl, rfl, rfl, rfl, rfl, rfl, rfl, rfl, trivial⟩, rfl, q71n, ((e71.trans e82).trans e84), s86, (o82.mono e84), h82⟩
              · refine wt_skip (wt_inBlock (wt_region (o_addi rfl rfl (inr_succ0 q71n o68.bd) (o_mov (.int .i64 ((j71 : Int) + 1)) rfl (wl_nil (?_))))))
                have s87 := s78.rot7.rot7.rot7.rot7.rot7.rot7.rot7
                exact i71.out _ _ _ (by omega) ⟨_, _, j71 + 1, A72, v72, x72, ov_self _ _ ⟨rfl, rfl, rfl, rfl, rfl, rfl, rfl, rfl, rfl, rfl, rfl, rfl, rfl, rfl, rfl, trivial⟩, rfl, q71n, e71, s87, o72, (h79.2 c80)⟩
            · have y71 := k71 _ (rng_end (I := fun j => V71 j x72) l71 q71 h71)
              refine wt_exit rfl (wt_region (o_mov v53 rfl (?_)))
              obtain ⟨I88, e88, s88, r88⟩ := OwnSl.freeze o72 s71
              refine o_loadA (vs := [.int .i64 (left42[j52]), v72, .int .i64 (x62.length : Int)]) ty43 s88 rfl rfl rfl (?_)
              have s90 := s88.rot3
              refine v_app1 sl40 rfl rfl rfl s90 (((((((o53.mono e63).mono e64).mono e65).mono e68).mono e70).mono e71).mono e88) (mk_Sched_choice ⟨rfl, g58.1, g58.2⟩ r88 ⟨rfl, (inr_len o62.bd).1, (inr_len o62.bd).2⟩) rfl rfl y71 rfl (fun u89 v89 A89 I89 w89 e89 s89 o89 l89 h89 => ?_)
              refine o_asg v89 rfl (wl_nil (wt_inBlock (wt_region (o_addi rfl rfl (inr_succ0 q52n o42.bd) (o_mov (.int .i64 ((j52 : Int) + 1)) rfl (wl_nil (?_)))))))
              have s91 := s89.rot5.rot3.rot5.rot3.rot4
              exact i52.out _ _ _ (by omega) ⟨_, _, j52 + 1, A89, v89, (may53 ++ [(⟨(left42[j52]), x72, (x62.length : Int)⟩ : Sched_choice)]), ov_self _ _ ⟨rfl, rfl, rfl, rfl, rfl, rfl, rfl, rfl, rfl, rfl, rfl, trivial⟩, rfl, q52n, ((((((((e52.trans e63).trans e64).trans e65).trans e68).trans e70).trans e71).trans e88).trans e89), s91.drop, o89, h89⟩
          · have y52 := k52 _ (rng_end (I := fun j => V52 j may53) l52 q52 h52)
            refine wt_exit rfl (wt_seq (wt_region (o_mov v53 rfl (?_))))
            obtain ⟨I92, e92, s92, r92⟩ := OwnSl.freeze o53 s52
            refine o_ret cc14 (Wp.cA y52 ⟨_, _, rfl, r92, _, _, [], _, rfl, rfl, (Fc.done cc15 (F := fun (a : Sched_choice × Sched_choice × Unit) Q => sched_Plan_1 a.1 a.2.1 Q) (Fc.nil (F := fun (a : Sched_choice × Sched_choice × Unit) Q => sched_Plan_1 a.1 a.2.1 Q) (fun a Q h => h))), ⟨fun _ h => h⟩, rfl, rfl, rfl⟩ (by simpa only [List.append_assoc, List.nil_append, List.append_nil] using s92)) rfl ?_
            rintro v93 I93 w93 e93 ⟨A93, x93, s93, ⟨rfl, r93⟩, h93⟩
            replace s93 := s93.of_nil
            obtain ⟨c93_0, c93_1, c93_2, rfl, r93_0, r93_1, r93_2⟩ := open_Sched_choice r93
            obtain ⟨rfl, g93_0⟩ := rint_in r93_0
            obtain ⟨rfl, g93_2⟩ := rint_in r93_2
            refine o_allocO (z := .agg #[.int .i64 0, .slice none 0 0, .int .i64 0]) (cs := #[.int .i64 0, .slice none 0 0, .int .i64 0]) s93 zr43 rfl (fun bk25 w94 e94 s94 => ?_)
            refine o_storeB (vs := [.int .i64 x93.part, c93_1, .int .i64 x93.come]) ty43 s94 rfl rfl rfl rfl ⟨rfl, (one1 rfl (e94.rep r93_1)), rfl, trivial⟩ (fun w95 e95 s95 => ?_)
            refine wl_nil (wt_seq (?_))
            obtain ⟨I97, e97, s97, b97, p97, r97⟩ := freeze_blk (v := .agg #[.int .i64 x93.part, c93_1, .int .i64 x93.come]) (x := x93) s95 rfl (mk_Sched_choice ⟨rfl, g93_0.1, g93_0.2⟩ (e95.rep (e94.rep r93_1)) ⟨rfl, g93_2.1, g93_2.2⟩)
            refine wt_drawS s97 mixed rfl (fun w96 e96 s96 => ?_)
            refine g_op (i := 0) rfl rfl rfl (by kernel_rfl) rfl ⟨_, e96⟩ (fun w' ⟨I', e'⟩ => o_mov v45 rfl ⟨rfl, rfl⟩) (?_)
            obtain ⟨v98, r98, p98, q98⟩ := Points.field fld_Sched_choice_0 p97 r97
            have b98 := blk_of q98 b97
            refine g_op (i := 1) rfl rfl rfl (by kernel_rfl) rfl ⟨_, e96⟩ (fun w' ⟨I', e'⟩ => o_fl fl43_0 rfl ⟨rfl, rfl⟩) (?_)
            have r99 := r98
            obtain ⟨rfl, g99⟩ := rint_in r99
            refine g_op (i := 2) rfl rfl rfl (by kernel_rfl) rfl ⟨_, e96⟩ (fun w' ⟨I', e'⟩ => o_load ty3 (Points.mono e' b98 p98) (e'.rep r99) rfl ⟨rfl, rfl⟩) (?_)
            obtain ⟨v100, r100, p100, q100⟩ := Points.field fld_Sched_choice_1 p97 r97
            have b100 := blk_of q100 b97
            refine g_op (i := 3) rfl rfl rfl (by kernel_rfl) rfl ⟨_, e96⟩ (fun w' ⟨I', e'⟩ => o_fl fl43_1 rfl ⟨rfl, rfl⟩) (?_)
            have r101 := r100
            refine g_op (i := 4) rfl rfl rfl (by kernel_rfl) rfl ⟨_, e96⟩ (fun w' ⟨I', e'⟩ => o_load ty23 (Points.mono e' b100 p100) (e'.rep r101) rfl ⟨rfl, rfl⟩) (g_op (i := 5) rfl rfl rfl (by kernel_rfl) rfl ⟨_, e96⟩ (fun w' ⟨I', e'⟩ => o_mov v43 rfl ⟨rfl, rfl⟩) (g_one (i := 6) rfl (by kernel_rfl) rfl (?_)))
            have s103 := s96.rot2
            obtain ⟨I102, e102, s102, r102⟩ := OwnSl.freeze (((((((o43.mono e52).mono e92).mono e93).mono e94).mono e95).mono e97).mono e96) s103
            refine o_buildI (xs := ([x93.out, with43] : List (List Int))) (vs := [v100, v43]) sl22 s102 rfl ⟨(e102.rep (e96.rep r101)), r102, trivial⟩ rfl rfl (fun v104 I104 w104 e104 s104 r104 => ?_)
            refine wl_nil ⟨⟨_, ((e96.trans e102).trans e104)⟩, ?_⟩
            refine g_one (i := 7) rfl (by kernel_rfl) rfl (o_ret cc18 (Wp.c0 (h93 g99) ⟨_, _, rfl, r104, rfl, rfl⟩ s104) rfl ?_)
            rintro v105 I105 w105 e105 ⟨A105, x105, s105, o105, h105⟩
            refine wl_nil ⟨⟨_, (((e96.trans e102).trans e104).trans e105)⟩, ?_⟩
            refine g_op (i := 8) rfl rfl rfl (by kernel_rfl) rfl ⟨_, (((e96.trans e102).trans e104).trans e105)⟩ (fun w' ⟨I', e'⟩ => o_buildS (lc := [(0, #[.int .i64 x93.part]), (1, #[v105])]) (vs := #[.int .i64 x93.part, v105]) bd31 ⟨_, Try.underlying31⟩ ⟨rfl, rfl, rfl, o105.cells, trivial⟩ rfl ⟨rfl, rfl⟩) (g_one (i := 9) rfl (by kernel_rfl) rfl (?_))
            obtain ⟨I106, e106, s106, r106⟩ := OwnSl.freeze o105 s105
            refine o_buildI (xs := ([(⟨x93.part, x105⟩ : Sched_Step)] : List Sched_Step)) (vs := [.agg #[.int .i64 x93.part, v105]]) sl26 s106 rfl ⟨(mk_Sched_Step ⟨rfl, g99.1, g99.2⟩ r106), trivial⟩ rfl rfl (fun v107 I107 w107 e107 s107 r107 => ?_)
            refine wl_nil ⟨⟨_, (((((e96.trans e102).trans e104).trans e105).trans e106).trans e107)⟩, ?_⟩
            refine g_one (i := 10) rfl (by kernel_rfl) rfl (o_append sl26 s107 ((((((((((((o45.mono e52).mono e92).mono e93).mono e94).mono e95).mono e97).mono e96).mono e102).mono e104).mono e105).mono e106).mono e107) r107 rfl rfl h105.1 (app_le h105.1) (fun v108 A108 w108 e108 s108 o108 => ?_))
            refine wl_nil ⟨⟨_, ((((((e96.trans e102).trans e104).trans e105).trans e106).trans e107).trans e108)⟩, ?_⟩
            refine g_op (i := 11) rfl rfl rfl (by kernel_rfl) rfl ⟨_, ((((((e96.trans e102).trans e104).trans e105).trans e106).trans e107).trans e108)⟩ (fun w' ⟨I', e'⟩ => o_asg v108 rfl ⟨rfl, rfl⟩) (g_done (by kernel_rfl) (wt_seq (wt_region (o_assign (wl_nil (wt_seq (wt_region (o_mov v44 rfl (o_mov v1 rfl (o_field fl43_0 fld_Sched_choice_0 (((((((p97.mono e96 b97).mono e102 (e96.sub _ b97)).mono e104 (e102.sub _ (e96.sub _ b97))).mono e105 (e104.sub _ (e102.sub _ (e96.sub _ b97)))).mono e106 (e105.sub _ (e104.sub _ (e102.sub _ (e96.sub _ b97))))).mono e107 (e106.sub _ (e105.sub _ (e104.sub _ (e102.sub _ (e96.sub _ b97)))))).mono e108 (e107.sub _ (e106.sub _ (e105.sub _ (e104.sub _ (e102.sub _ (e96.sub _ b97))))))) (e108.rep (e107.rep (e106.rep (e105.rep (e104.rep (e102.rep (e96.rep r97))))))) rfl (fun a109 v109 q109 p109 r109 => ?_)))))))))))
            have b109 := blk_of q109 (e108.sub _ (e107.sub _ (e106.sub _ (e105.sub _ (e104.sub _ (e102.sub _ (e96.sub _ b97)))))))
            refine o_load ty3 p109 r109 rfl (?_)
            have r110 := r109
            obtain ⟨rfl, g110⟩ := rint_in r110
            have h111 := (h105.2 g110)
            refine v_il (j := (Int.toNat x93.part)) sl22 (e108.rep (e107.rep (e106.rep (e105.rep (e104.rep (e102.rep (e96.rep (e97.rep (e95.rep (e94.rep (e93.rep (e92.rep (e52.rep (e41.rep (e28.rep (e26.rep (e20.rep (e7.rep r5)))))))))))))))))) rfl rfl (Int.toNat_of_nonneg h111.1).symm rfl ty23 h111.2 (fun q112 a112 v112 r112 h112 => ?_)
            have s114 := s108.rot1
            obtain ⟨I113, e113, s113, r113⟩ := OwnSl.freeze (((((((((((((o44.mono e52).mono e92).mono e93).mono e94).mono e95).mono e97).mono e96).mono e102).mono e104).mono e105).mono e106).mono e107).mono e108) s114
            refine o_buildI (xs := ([seen44, (x1[(Int.toNat x93.part)])] : List (List Int))) (vs := [v44, v112]) sl22 s113 rfl ⟨r113, (e113.rep r112), trivial⟩ rfl rfl (fun v115 I115 w115 e115 s115 r115 => ?_)
            refine o_ret cc18 (Wp.c0 h112 ⟨_, _, rfl, r115, rfl, rfl⟩ s115) rfl ?_
            rintro v116 I116 w116 e116 ⟨A116, x116, s116, o116, h116⟩
            refine o_asg v116 rfl (wl_nil (wt_seq (wt_seq (wt_region (o_mov v1 rfl (o_field fl43_0 fld_Sched_choice_0 ((((((((((p97.mono e96 b97).mono e102 (e96.sub _ b97)).mono e104 (e102.sub _ (e96.sub _ b97))).mono e105 (e104.sub _ (e102.sub _ (e96.sub _ b97)))).mono e106 (e105.sub _ (e104.sub _ (e102.sub _ (e96.sub _ b97))))).mono e107 (e106.sub _ (e105.sub _ (e104.sub _ (e102.sub _ (e96.sub _ b97)))))).mono e108 (e107.sub _ (e106.sub _ (e105.sub _ (e104.sub _ (e102.sub _ (e96.sub _ b97))))))).mono e113 (e108.sub _ (e107.sub _ (e106.sub _ (e105.sub _ (e104.sub _ (e102.sub _ (e96.sub _ b97)))))))).mono e115 (e113.sub _ (e108.sub _ (e107.sub _ (e106.sub _ (e105.sub _ (e104.sub _ (e102.sub _ (e96.sub _ b97))))))))).mono e116 (e115.sub _ (e113.sub _ (e108.sub _ (e107.sub _ (e106.sub _ (e105.sub _ (e104.sub _ (e102.sub _ (e96.sub _ b97)))))))))) (e116.rep (e115.rep (e113.rep (e108.rep (e107.rep (e106.rep (e105.rep (e104.rep (e102.rep (e96.rep r97)))))))))) rfl (fun a117 v117 q117 p117 r117 => ?_)))))))
            have b117 := blk_of q117 (e116.sub _ (e115.sub _ (e113.sub _ (e108.sub _ (e107.sub _ (e106.sub _ (e105.sub _ (e104.sub _ (e102.sub _ (e96.sub _ b97))))))))))
            refine o_load ty3 p117 r117 rfl (?_)
            have r118 := r117
            obtain ⟨rfl, g118⟩ := rint_in r118
            have h119 := (h116 g118)
            refine v_il (j := (Int.toNat x93.part)) sl22 (e116.rep (e115.rep (e113.rep (e108.rep (e107.rep (e106.rep (e105.rep (e104.rep (e102.rep (e96.rep (e97.rep (e95.rep (e94.rep (e93.rep (e92.rep (e52.rep (e41.rep (e28.rep (e26.rep (e20.rep (e7.rep r5))))))))))))))))))))) rfl rfl (Int.toNat_of_nonneg h119.1).symm rfl ty23 h119.2 (fun q120 a120 v120 r120 h120 => ?_)
            refine o_len' r120 rfl sl23 rfl (o_move (wl_nil (wt_block (?_))))
            have h121 := (h120 (rep_len r120))
            obtain ⟨V122, z122, b122, k122⟩ := h121
            refine wt_loop (fun n f w122 => ∃ (g : Fr) (I122 : Reg) (j122 : Nat) (A124 : Own) (v124 : Value) (in124 : List (Int × Int)), f = ov [(5, v1), (6, v2), (7, v124), (12, v42), (14, .slice none 0 0), (17, v116), (18, v108), (25, .pointer (some ⟨bk25, 0, none⟩)), (146, v120), (147, .int .i64 ((x1[(Int.toNat x93.part)]).length : Int)), (148, .int .i64 (j122 : Int))] g ∧ n = (x1[(Int.toNat x93.part)]).length - j122 ∧ j122 ≤ (x1[(Int.toNat x93.part)]).length ∧ Ext I116 w116 I122 w122 ∧ St I122 w122 (A116 ++ (A108 ++ (A42 ++ (A124 ++ T)))) ∧ OwnMap I122 w122 A124 v124 in124 ∧ V122 j122 in124) _ ⟨_, _, 0, A46, v46, in46, ov_self _ _ ⟨rfl, rfl, rfl, rfl, rfl, rfl, rfl, rfl, rfl, rfl, rfl, trivial⟩, rfl, Nat.zero_le _, Ext.refl _ _, s116, ((((((((((((((((o46.mono e52).mono e92).mono e93).mono e94).mono e95).mono e97).mono e96).mono e102).mono e104).mono e105).mono e106).mono e107).mono e108).mono e113).mono e115).mono e116), z122⟩ ?_
            rintro n f w122 ⟨g, I122, j122, A124, v124, in124, rfl, rfl, l122, e122, s122, o124, h122⟩ i122
            refine wt_seq (wt_region (o_lssv rfl rfl (wl_nil (wt_seq (wt_condp rfl (fun q122 => ?_) (fun q122 => ?_))))))
            · have y122 := b122 _ (rng_lt q122) _ h122
              have q122n := rng_lt q122
              refine wt_skip (wt_seq (wt_block (wt_seq (wt_region (v_il (j := j122) sl23 (e122.rep r120) rfl rfl rfl rfl ty3 y122 (fun q125 a125 v125 r125 h125 => ?_))))))
              obtain ⟨rfl, g125⟩ := rint_in r125
              refine o_asg (.int .i64 ((x1[(Int.toNat x93.part)])[j122])) rfl (wl_nil (wt_region (o_mov v124 rfl (o_mov (.int .i64 ((x1[(Int.toNat x93.part)])[j122])) rfl (?_)))))
              have s127 := s122.rot3
              refine o_lookup (zv := .int .i64 0) (zd := (0 : Int)) mt39 o124 s127 rfl rfl ⟨rfl, g125.1, g125.2⟩ (zv3 _) ⟨rfl, by decide, by decide⟩ (fun v126 r126 => ?_)
              obtain ⟨rfl, g126⟩ := rint_in r126
              have h128 := ((h125 g125) g126)
              refine o_subi rfl rfl h128.1 (o_mapSet mt39 o124 s127 rfl rfl rfl ⟨rfl, g125.1, g125.2⟩ ⟨rfl, h128.1.1, h128.1.2⟩ (fun A129 w129 e129 s129 o129 => ?_))
              refine wl_nil (wt_inBlock (wt_region (o_addi rfl rfl (inr_succ0 q122n (rep_len r120)) (o_mov (.int .i64 ((j122 : Int) + 1)) rfl (wl_nil (?_))))))
              have s130 := s129.rot3.rot3.rot3
              exact i122.out _ _ _ (by omega) ⟨_, _, j122 + 1, A129, v124, (mset in124 ((x1[(Int.toNat x93.part)])[j122]) (((mget in124 ((x1[(Int.toNat x93.part)])[j122])).getD 0) - 1)), ov_self _ _ ⟨rfl, rfl, rfl, rfl, rfl, rfl, rfl, rfl, rfl, rfl, rfl, trivial⟩, rfl, q122n, (e122.trans e129), s130, o129, h128.2⟩
            · have y122 := k122 _ (rng_end (I := fun j => V122 j in124) l122 q122 h122)
              refine wt_exit rfl (wt_region (o_mov v42 rfl (o_field fl43_0 fld_Sched_choice_0 (((((((((((p97.mono e96 b97).mono e102 (e96.sub _ b97)).mono e104 (e102.sub _ (e96.sub _ b97))).mono e105 (e104.sub _ (e102.sub _ (e96.sub _ b97)))).mono e106 (e105.sub _ (e104.sub _ (e102.sub _ (e96.sub _ b97))))).mono e107 (e106.sub _ (e105.sub _ (e104.sub _ (e102.sub _ (e96.sub _ b97)))))).mono e108 (e107.sub _ (e106.sub _ (e105.sub _ (e104.sub _ (e102.sub _ (e96.sub _ b97))))))).mono e113 (e108.sub _ (e107.sub _ (e106.sub _ (e105.sub _ (e104.sub _ (e102.sub _ (e96.sub _ b97)))))))).mono e115 (e113.sub _ (e108.sub _ (e107.sub _ (e106.sub _ (e105.sub _ (e104.sub _ (e102.sub _ (e96.sub _ b97))))))))).mono e116 (e115.sub _ (e113.sub _ (e108.sub _ (e107.sub _ (e106.sub _ (e105.sub _ (e104.sub _ (e102.sub _ (e96.sub _ b97)))))))))).mono e122 (e116.sub _ (e115.sub _ (e113.sub _ (e108.sub _ (e107.sub _ (e106.sub _ (e105.sub _ (e104.sub _ (e102.sub _ (e96.sub _ b97))))))))))) (e122.rep (e116.rep (e115.rep (e113.rep (e108.rep (e107.rep (e106.rep (e105.rep (e104.rep (e102.rep (e96.rep r97))))))))))) rfl (fun a131 v131 q131 p131 r131 => ?_))))
              have b131 := blk_of q131 (e122.sub _ (e116.sub _ (e115.sub _ (e113.sub _ (e108.sub _ (e107.sub _ (e106.sub _ (e105.sub _ (e104.sub _ (e102.sub _ (e96.sub _ b97)))))))))))
              refine o_load ty3 p131 r131 rfl (?_)
              have r132 := r131
              obtain ⟨rfl, g132⟩ := rint_in r132
              refine o_buildI (xs := ([x93.part] : List Int)) (vs := [.int .i64 x93.part]) sl23 s122 rfl ⟨⟨rfl, g132.1, g132.2⟩, trivial⟩ rfl rfl (fun v133 I133 w133 e133 s133 r133 => ?_)
              have h134 := (y122 g132)
              have s136 := s133.rot2
              obtain ⟨e135, s135, r135⟩ := OwnSl.lend ((((((((((((((((((o42.mono e52).mono e92).mono e93).mono e94).mono e95).mono e97).mono e96).mono e102).mono e104).mono e105).mono e106).mono e107).mono e108).mono e113).mono e115).mono e116).mono e122).mono e133) s136
              refine o_ret cc12 (Wp.c0 h134 ⟨_, _, rfl, r135, _, _, rfl, (e135.rep r133), rfl, rfl⟩ s135) rfl ?_
              rintro v137 I137 w137 e137 ⟨A137, x137, s137, o137, h137⟩
              obtain ⟨I138, e138, s138⟩ := St.back2 s136 e137 s137
              replace o137 := o137.flatI (I' := I138) (w' := w137)
              refine o_asg v137 rfl (wl_nil (wt_inBlock (?_)))
              have s140 := s138.rot2.rot3.rot3
              obtain ⟨n41, m41, z41⟩ := h137
              exact i41.out _ _ _ m41 ⟨_, _, A137, v137, x137, [], (.slice none 0 0), [], A116, v116, x116, A108, v108, (steps45 ++ ([(⟨x93.part, x105⟩ : Sched_Step)] : List Sched_Step)), A124, v124, in124, ov_self _ _ ⟨rfl, rfl, rfl, rfl, rfl, rfl, rfl, trivial⟩, (((((((((((((((((((e41.trans e52).trans e92).trans e93).trans e94).trans e95).trans e97).trans e96).trans e102).trans e104).trans e105).trans e106).trans e107).trans e108).trans e113).trans e115).trans e116).trans e122).trans e133).trans e138), s140.drop, o137, OwnSl.nil, (((o116.mono e122).mono e133).mono e138), ((((((o108.mono e113).mono e115).mono e116).mono e122).mono e133).mono e138), ((o124.mono e133).mono e138), z41⟩
        · refine wt_exit rfl (wt_seq (wt_region (o_mov v45 rfl (o_asg v45 rfl (wl_nil (?_))))))
          have s141 := s41.rot4.rot4.rot4.rot4
          exact ret_one Try.func6 rfl rfl ((((((((e1.trans e2).trans e3).trans e5).trans e7).trans e20).trans e26).trans e28).trans e41) ⟨A45, _, s141.drop.drop.drop.drop, o45, (h49.2 c50)⟩

def sched_live {σ_each : Type}  (parts : List (List Int)) (l : List Sched_Step) (E_each : Reg → World → Own → Value → σ_each → Prop) (each : σ_each × (List Int) × (List Int) × Unit → (σ_each × Unit → Prop) → Prop) (each_s : σ_each) (Q : (σ_each × (Unit)) → Prop) : Prop := Wp Try.prog 21 (sD (sD (sF Try.prog (fun v => sE E_each v (sD (sD sN))) (fun v => rE E_each v rU) E_each sN))) (parts, l, (each, each_s), ()) (rEi 2 E_each rU) Q
def sched_live_v {σ_each : Type}  (parts : List (List Int)) (l : List Sched_Step) (E_each : Reg → World → Own → Value → σ_each → Prop) (each : σ_each × (List Int) × (List Int) × Unit → (σ_each × Unit → Prop) → Prop) (each_s : σ_each) (Q : (σ_each × (Unit)) → Prop) : Prop := sched_sets parts (fun (x1 : List (List Int)) => (l.length ≤ 9223372036854775807 → Rng4 l.length (fun j4 q4 V4 (each6 : σ_each) (p7 : List (List Int)) (came8 : List Int) (gone9 : List Int) => (∃ q12 : j4 < l.length, (((0 ≤ (l[j4]).Part) → (p7.length ≤ 9223372036854775807 → Jn1 (fun (now18 : List Int) => vset_Less came8 gone9 (fun (x23 : List Int) => vset_Union ([x23, now18] : List (List Int)) (fun (x29 : List Int) => Jn2 (fun (came31 : List Int) (gone32 : List Int) => vset_Less came31 gone32 (fun (x37 : List Int) => each (each6, x29, x37, ()) (fun x44 => V4 x44.1 p7 came31 gone32))) (fun M30 => vset_Union ([came8, now18] : List (List Int)) (fun (x55 : List Int) => vset_Union ([gone9, ((l[j4]).Out)] : List (List Int)) (fun (x59 : List Int) => M30 x55 x59)))))) (fun M17 => ((((l[j4]).Part < (p7.length : Int)) → ((0 : Int) ≤ ((l[j4]).Part)) ∧ ((∃ q78 : (Int.toNat ((l[j4]).Part)) < p7.length, M17 (p7[(Int.toNat ((l[j4]).Part))])))) ∧ (¬((l[j4]).Part < (p7.length : Int)) → M17 ([] : List Int)))))) ∧ (¬(0 ≤ (l[j4]).Part) → Jn0 (vset_Less came8 gone9 (fun (x85 : List Int) => vset_Union ([x85, []] : List (List Int)) (fun (x91 : List Int) => Jn2 (fun (came93 : List Int) (gone94 : List Int) => vset_Less came93 gone94 (fun (x99 : List Int) => each (each6, x91, x99, ()) (fun x106 => V4 x106.1 p7 came93 gone94))) (fun M92 => vset_Union ([came8, []] : List (List Int)) (fun (x117 : List Int) => vset_Union ([gone9, ((l[j4]).Out)] : List (List Int)) (fun (x121 : List Int) => M92 x117 x121)))))) (fun M80 => M80))))) (fun (each6 : σ_each) (p7 : List (List Int)) (came8 : List Int) (gone9 : List Int) => Q (each6, ())) each_s x1 [] []))
set_option maxHeartbeats 4000000 in
theorem sched_live_w {σ_each : Type}  {parts : List (List Int)} {l : List Sched_Step} {E_each : Reg → World → Own → Value → σ_each → Prop} {each : σ_each × (List Int) × (List Int) × Unit → (σ_each × Unit → Prop) → Prop} {each_s : σ_each} {Q : (σ_each × (Unit)) → Prop} (h : sched_live_v parts l E_each each each_s Q) : sched_live parts l E_each each each_s Q := by
  rintro I w T A vs ⟨u0, _, rfl, (r_parts : rep I w u0 parts), u1, _, rfl, (r_l : rep I w u1 l), u2, _, AE2, _, rfl, rfl, f_each, m_each, q_each, rfl, rfl⟩ s0
  simp only [List.append_assoc, List.nil_append] at s0
  refine ret_of_wt Try.func21 rfl Try.ntmps21 rfl ?_
  refine wt_seq (wt_region (o_mov u0 rfl (o_ret cc10 (Wp.c0 h ⟨_, _, rfl, r_parts, rfl, rfl⟩ s0) rfl ?_)))
  rintro v1 I1 w1 e1 ⟨A1, x1, s1, o1, h1⟩
  refine o_asg v1 rfl (wl_nil (wt_seq (wt_region (o_assign (o_assign (wl_nil (wt_seq (wt_region (o_mov u1 rfl (o_len' (e1.rep r_l) rfl sl26 rfl (o_move (wl_nil (wt_block (?_))))))))))))))
  have h2 := (h1 (rep_len r_l))
  obtain ⟨I3, e3, s3, r3⟩ := OwnSl.freeze o1 s1
  obtain ⟨V4, z4, b4, k4⟩ := h2
  refine wt_loop (fun n f w4 => ∃ (g : Fr) (I4 : Reg) (j4 : Nat) (A6 : Own) (each6 : σ_each) (v7 : Value) (p7 : List (List Int)) (A8 : Own) (v8 : Value) (came8 : List Int) (A9 : Own) (v9 : Value) (gone9 : List Int), f = ov [(2, u2), (6, v7), (7, v8), (8, v9), (15, u1), (16, .int .i64 (l.length : Int)), (17, .int .i64 (j4 : Int))] g ∧ n = l.length - j4 ∧ j4 ≤ l.length ∧ Ext I3 w1 I4 w4 ∧ St I4 w4 (A9 ++ (A8 ++ (A6 ++ T))) ∧ E_each I4 w4 A6 u2 each6 ∧ rep I4 w4 v7 p7 ∧ OwnSl I4 w4 A8 v8 came8 ∧ OwnSl I4 w4 A9 v9 gone9 ∧ V4 j4 each6 p7 came8 gone9) _ ⟨_, _, 0, AE2, each_s, v1, x1, [], (.slice none 0 0), [], [], (.slice none 0 0), [], ov_self _ _ ⟨rfl, rfl, rfl, rfl, rfl, rfl, rfl, trivial⟩, rfl, Nat.zero_le _, Ext.refl _ _, s3, (m_each.mono e3 (m_each.mono e1 q_each)), r3, OwnSl.nil, OwnSl.nil, z4⟩ ?_
  rintro n f w4 ⟨g, I4, j4, A6, each6, v7, p7, A8, v8, came8, A9, v9, gone9, rfl, rfl, l4, e4, s4, o6, r7, o8, o9, h4⟩ i4
  refine wt_seq (wt_region (o_lssv rfl rfl (wl_nil (wt_seq (wt_condp rfl (fun q4 => ?_) (fun q4 => ?_))))))
  · have y4 := b4 _ (rng_lt q4) _ _ _ _ h4
    have q4n := rng_lt q4
    refine wt_skip (wt_seq (wt_block (wt_seq (wt_region (v_il (j := j4) sl26 (e4.rep (e3.rep (e1.rep r_l))) rfl rfl rfl rfl ty31 y4 (fun q12 a12 v12 r12 h12 => ?_))))))
    obtain ⟨c12_0, c12_1, rfl, rr12_0, r12_1⟩ := open_Sched_Step r12
    obtain ⟨rfl, g12_0⟩ := rint_in rr12_0
    refine o_allocO (z := .agg #[.int .i64 0, .slice none 0 0]) (cs := #[.int .i64 0, .slice none 0 0]) s4 zr31 rfl (fun bk10 w13 e13 s13 => ?_)
    refine o_storeB (vs := [.int .i64 ((l[j4]).Part), c12_1]) ty31 s13 rfl rfl rfl rfl ⟨rfl, (one1 rfl (e13.rep r12_1)), trivial⟩ (fun w14 e14 s14 => ?_)
    refine wl_nil (wt_seq (wt_region (o_assign (wl_nil (wt_seq (wt_seq (wt_region (o_fieldO fl31_0 rfl (o_loadO (v := .int .i64 ((l[j4]).Part)) ty3 s14 rfl rfl (o_geqv rfl rfl (o_mov (.bool (decide (0 ≤ (l[j4]).Part))) rfl (wl_casep (d := 24) rfl rfl (fun c15 => ?_) (fun c15 => ?_)))))))))))))
    · refine wl_yes rfl (o_fieldO fl31_0 rfl (wl_yes rfl (o_loadO (v := .int .i64 ((l[j4]).Part)) ty3 s14 rfl rfl (wl_yes rfl (o_mov v7 rfl (wl_yes rfl (o_len' (e14.rep (e13.rep r7)) rfl sl22 rfl (wl_yes rfl (o_lssv rfl rfl (o_pickt (.bool (decide ((l[j4]).Part < (p7.length : Int)))) rfl rfl (wl_nil (?_))))))))))))
      have h16 := ((h12.1 c15) (rep_len r7))
      obtain ⟨M17, k17, h17⟩ := h16
      refine wt_cut (fun f w17 => ∃ (g : Fr) (I17 : Reg) (v18 : Value) (now18 : List Int), f = ov [(2, u2), (6, v7), (7, v8), (8, v9), (10, .pointer (some ⟨bk10, 0, none⟩)), (11, v18), (15, u1), (16, .int .i64 (l.length : Int)), (17, .int .i64 (j4 : Int))] g ∧ Ext I4 w14 I17 w17 ∧ St I17 w17 ([(bk10, .cells #[.int .i64 ((l[j4]).Part), c12_1] 31 (0, 0))] ++ (A9 ++ (A8 ++ (A6 ++ T)))) ∧ rep I17 w17 v18 now18 ∧ M17 now18) ?_ ?_
      · rintro f w17 ⟨g, I17, v18, now18, rfl, e17, s17, r18, y17⟩
        have y17 := k17 _ y17
        refine wt_seq (wt_region (o_mov v8 rfl (o_mov v9 rfl (?_))))
        have s20 := s17.rot2
        obtain ⟨e19, s19, r19⟩ := OwnSl.lend (((o8.mono e13).mono e14).mono e17) s20
        have s22 := s19.rot1
        obtain ⟨e21, s21, r21⟩ := OwnSl.lend ((((o9.mono e13).mono e14).mono e17).mono e19) s22
        refine o_ret cc12 (Wp.c0 y17 ⟨_, _, rfl, (e21.rep r19), _, _, rfl, r21, rfl, rfl⟩ s21) rfl ?_
        rintro v23 I23 w23 e23 ⟨A23, x23, s23, o23, h23⟩
        obtain ⟨I24, e24, s24⟩ := St.back2 s22 e23 s23
        replace o23 := o23.flatI (I' := I24) (w' := w23)
        have s26 := s24.rot2.rot1
        obtain ⟨I25, e25, s25⟩ := St.back2 s20 e24 s26
        replace o23 := o23.flatI (I' := I25) (w' := w23)
        refine o_mov v18 rfl (?_)
        obtain ⟨I27, e27, s27, r27⟩ := OwnSl.freeze o23 s25
        refine o_buildI (xs := ([x23, now18] : List (List Int))) (vs := [v23, v18]) sl22 s27 rfl ⟨r27, (e27.rep (e25.rep r18)), trivial⟩ rfl rfl (fun v28 I28 w28 e28 s28 r28 => ?_)
        refine o_ret cc18 (Wp.c0 h23 ⟨_, _, rfl, r28, rfl, rfl⟩ s28) rfl ?_
        rintro v29 I29 w29 e29 ⟨A29, x29, s29, o29, h29⟩
        refine o_asg v29 rfl (wl_nil (wt_seq (?_)))
        obtain ⟨M30, k30, h30⟩ := h29
        refine wt_cut (fun f w30 => ∃ (g : Fr) (I30 : Reg) (A31 : Own) (v31 : Value) (came31 : List Int) (A32 : Own) (v32 : Value) (gone32 : List Int), f = ov [(2, u2), (6, v7), (7, v31), (8, v32), (12, v29), (15, u1), (16, .int .i64 (l.length : Int)), (17, .int .i64 (j4 : Int))] g ∧ Ext I29 w29 I30 w30 ∧ St I30 w30 (A29 ++ (A31 ++ (A32 ++ (A6 ++ T)))) ∧ OwnSl I30 w30 A31 v31 came31 ∧ OwnSl I30 w30 A32 v32 gone32 ∧ M30 came31 gone32) ?_ ?_
        · rintro f w30 ⟨g, I30, A31, v31, came31, A32, v32, gone32, rfl, e30, s30, o31, o32, y30⟩
          have y30 := k30 _ _ y30
          refine wt_region (o_mov u2 rfl (o_mov v29 rfl (o_mov v31 rfl (o_mov v32 rfl (?_)))))
          have s34 := s30.rot1
          obtain ⟨e33, s33, r33⟩ := OwnSl.lend o31 s34
          have s36 := s33.rot1
          obtain ⟨e35, s35, r35⟩ := OwnSl.lend (o32.mono e33) s36
          refine o_ret cc12 (Wp.c0 y30 ⟨_, _, rfl, (e35.rep r33), _, _, rfl, r35, rfl, rfl⟩ s35) rfl ?_
          rintro v37 I37 w37 e37 ⟨A37, x37, s37, o37, h37⟩
          obtain ⟨I38, e38, s38⟩ := St.back2 s36 e37 s37
          replace o37 := o37.flatI (I' := I38) (w' := w37)
          have s40 := s38.rot2.rot1
          obtain ⟨I39, e39, s39⟩ := St.back2 s34 e38 s40
          replace o37 := o37.flatI (I' := I39) (w' := w37)
          have s42 := s39.rot2
          obtain ⟨I41, e41, s41, r41⟩ := OwnSl.freeze ((o29.mono e30).mono e39) s42
          obtain ⟨I43, e43, s43, r43⟩ := OwnSl.freeze (o37.mono e41) s41
          have s45 := s43.rot2
          refine o_fv (A := A6 ++ []) ((((((((((((((f_each.mono e1).mono e3).mono e4).mono e13).mono e14).mono e17).mono e25).mono e27).mono e28).mono e29).mono e30).mono e39).mono e41).mono e43) h37 ⟨_, [], rfl, (m_each.mono e43 (m_each.mono e41 (m_each.mono e39 (m_each.mono e30 (m_each.mono e29 (m_each.mono e28 (m_each.mono e27 (m_each.mono e25 (m_each.mono e17 (m_each.mono e14 (m_each.mono e13 o6))))))))))), ⟨_, _, rfl, (e43.rep r41), _, _, rfl, r43, rfl, rfl⟩⟩ (by simpa only [List.append_assoc, List.nil_append] using s45) rfl rfl ?_
          rintro v44 I44 w44 e44 ⟨_, x44, s44, ⟨A44, _, rfl, o44, rfl, rfl⟩, h44⟩
          simp only [List.append_assoc, List.nil_append] at s44
          refine wl_nil (wt_inBlock (wt_region (o_addi rfl rfl (inr_succ0 q4n (rep_len r_l)) (o_mov (.int .i64 ((j4 : Int) + 1)) rfl (wl_nil (?_))))))
          have s46 := s44.rot1.rot2
          exact i4.out _ _ _ (by omega) ⟨_, _, j4 + 1, A44, x44.1, v7, p7, A31, v31, came31, A32, v32, gone32, ov_self _ _ ⟨rfl, rfl, rfl, rfl, rfl, rfl, rfl, trivial⟩, rfl, q4n, ((((((((((((e4.trans e13).trans e14).trans e17).trans e25).trans e27).trans e28).trans e29).trans e30).trans e39).trans e41).trans e43).trans e44), s46, o44, (e44.rep (e43.rep (e41.rep (e39.rep (e30.rep (e29.rep (e28.rep (e27.rep (e25.rep (e17.rep (e14.rep (e13.rep r7)))))))))))), ((((o31.mono e39).mono e41).mono e43).mono e44), ((((o32.mono e39).mono e41).mono e43).mono e44), h44⟩
        · intro j30
          have s49 := s29.rot2
          obtain ⟨I48, e48, s48, b48, p48, r48⟩ := freeze_blk (v := .agg #[.int .i64 ((l[j4]).Part), c12_1]) (x := l[j4]) s49 rfl (mk_Sched_Step ⟨rfl, g12_0.1, g12_0.2⟩ (e29.rep (e28.rep (e27.rep (e25.rep (e17.rep (e14.rep (e13.rep r12_1))))))))
          refine wt_drawS s48 mixed rfl (fun w47 e47 s47 => ?_)
          refine g_op (i := 0) rfl rfl rfl (by kernel_rfl) rfl ⟨_, e47⟩ (fun w' ⟨I', e'⟩ => o_mov v8 rfl ⟨rfl, rfl⟩) (g_op (i := 1) rfl rfl rfl (by kernel_rfl) rfl ⟨_, e47⟩ (fun w' ⟨I', e'⟩ => o_mov v18 rfl ⟨rfl, rfl⟩) (g_op (i := 4) rfl rfl rfl (by kernel_rfl) rfl ⟨_, e47⟩ (fun w' ⟨I', e'⟩ => o_mov v9 rfl ⟨rfl, rfl⟩) (?_)))
          obtain ⟨v50, r50, p50, q50⟩ := Points.field fld_Sched_Step_1 p48 r48
          have b50 := blk_of q50 b48
          refine g_op (i := 5) rfl rfl rfl (by kernel_rfl) rfl ⟨_, e47⟩ (fun w' ⟨I', e'⟩ => o_fl fl31_1 rfl ⟨rfl, rfl⟩) (?_)
          have r51 := r50
          refine g_op (i := 6) rfl rfl rfl (by kernel_rfl) rfl ⟨_, e47⟩ (fun w' ⟨I', e'⟩ => o_load ty23 (Points.mono e' b50 p50) (e'.rep r51) rfl ⟨rfl, rfl⟩) (g_two (i := 2) (i' := 7) rfl rfl (by kernel_rfl) rfl rfl ?_ ?_)
          · have s53 := s47.rot1
            obtain ⟨I52, e52, s52, r52⟩ := OwnSl.freeze (((((((((o8.mono e13).mono e14).mono e17).mono e25).mono e27).mono e28).mono e29).mono e48).mono e47) s53
            refine o_buildI (xs := ([came8, now18] : List (List Int))) (vs := [v8, v18]) sl22 s52 rfl ⟨r52, (e52.rep (e47.rep (e48.rep (e29.rep (e28.rep (e27.rep (e25.rep r18))))))), trivial⟩ rfl rfl (fun v54 I54 w54 e54 s54 r54 => ?_)
            refine wl_nil ⟨⟨_, ((e47.trans e52).trans e54)⟩, ?_⟩
            refine g_two (i := 3) (i' := 7) rfl rfl (by kernel_rfl) rfl rfl ?_ ?_
            · refine o_ret cc18 (Wp.c0 h30 ⟨_, _, rfl, r54, rfl, rfl⟩ s54) rfl ?_
              rintro v55 I55 w55 e55 ⟨A55, x55, s55, o55, h55⟩
              refine wl_nil ⟨⟨_, (((e47.trans e52).trans e54).trans e55)⟩, ?_⟩
              refine g_one (i := 7) rfl (by kernel_rfl) rfl (?_)
              have s57 := s55.rot2
              obtain ⟨I56, e56, s56, r56⟩ := OwnSl.freeze ((((((((((((o9.mono e13).mono e14).mono e17).mono e25).mono e27).mono e28).mono e29).mono e48).mono e47).mono e52).mono e54).mono e55) s57
              refine o_buildI (xs := ([gone9, ((l[j4]).Out)] : List (List Int))) (vs := [v9, v50]) sl22 s56 rfl ⟨r56, (e56.rep (e55.rep (e54.rep (e52.rep (e47.rep r51))))), trivial⟩ rfl rfl (fun v58 I58 w58 e58 s58 r58 => ?_)
              refine wl_nil ⟨⟨_, (((((e47.trans e52).trans e54).trans e55).trans e56).trans e58)⟩, ?_⟩
              refine g_one (i := 8) rfl (by kernel_rfl) rfl (o_ret cc18 (Wp.c0 h55 ⟨_, _, rfl, r58, rfl, rfl⟩ s58) rfl ?_)
              rintro v59 I59 w59 e59 ⟨A59, x59, s59, o59, h59⟩
              refine wl_nil ⟨⟨_, ((((((e47.trans e52).trans e54).trans e55).trans e56).trans e58).trans e59)⟩, ?_⟩
              refine g_op (i := 9) rfl rfl rfl (by kernel_rfl) rfl ⟨_, ((((((e47.trans e52).trans e54).trans e55).trans e56).trans e58).trans e59)⟩ (fun w' ⟨I', e'⟩ => o_asg v55 rfl ⟨rfl, rfl⟩) (g_op (i := 10) rfl rfl rfl (by kernel_rfl) rfl ⟨_, ((((((e47.trans e52).trans e54).trans e55).trans e56).trans e58).trans e59)⟩ (fun w' ⟨I', e'⟩ => o_asg v59 rfl ⟨rfl, rfl⟩) (g_done (by kernel_rfl) (?_)))
              have s60 := s59.rot1.rot2
              exact j30 _ _ ⟨_, _, A55, v55, x55, A59, v59, x59, ov_self _ _ ⟨rfl, rfl, rfl, rfl, rfl, rfl, rfl, rfl, trivial⟩, (((((((e48.trans e47).trans e52).trans e54).trans e55).trans e56).trans e58).trans e59), s60, (((o55.mono e56).mono e58).mono e59), o59, h59⟩
            · have s62 := s54.rot1
              obtain ⟨I61, e61, s61, r61⟩ := OwnSl.freeze (((((((((((o9.mono e13).mono e14).mono e17).mono e25).mono e27).mono e28).mono e29).mono e48).mono e47).mono e52).mono e54) s62
              refine o_buildI (xs := ([gone9, ((l[j4]).Out)] : List (List Int))) (vs := [v9, v50]) sl22 s61 rfl ⟨r61, (e61.rep (e54.rep (e52.rep (e47.rep r51)))), trivial⟩ rfl rfl (fun v63 I63 w63 e63 s63 r63 => ?_)
              refine wl_nil ⟨⟨_, ((((e47.trans e52).trans e54).trans e61).trans e63)⟩, ?_⟩
              refine g_one (i := 3) rfl (by kernel_rfl) rfl (o_ret cc18 (Wp.c0 h30 ⟨_, _, rfl, (e63.rep (e61.rep r54)), rfl, rfl⟩ s63) rfl ?_)
              rintro v64 I64 w64 e64 ⟨A64, x64, s64, o64, h64⟩
              refine wl_nil ⟨⟨_, (((((e47.trans e52).trans e54).trans e61).trans e63).trans e64)⟩, ?_⟩
              refine g_one (i := 8) rfl (by kernel_rfl) rfl (o_ret cc18 (Wp.c0 h64 ⟨_, _, rfl, (e64.rep r63), rfl, rfl⟩ s64) rfl ?_)
              rintro v65 I65 w65 e65 ⟨A65, x65, s65, o65, h65⟩
              refine wl_nil ⟨⟨_, ((((((e47.trans e52).trans e54).trans e61).trans e63).trans e64).trans e65)⟩, ?_⟩
              refine g_op (i := 9) rfl rfl rfl (by kernel_rfl) rfl ⟨_, ((((((e47.trans e52).trans e54).trans e61).trans e63).trans e64).trans e65)⟩ (fun w' ⟨I', e'⟩ => o_asg v64 rfl ⟨rfl, rfl⟩) (g_op (i := 10) rfl rfl rfl (by kernel_rfl) rfl ⟨_, ((((((e47.trans e52).trans e54).trans e61).trans e63).trans e64).trans e65)⟩ (fun w' ⟨I', e'⟩ => o_asg v65 rfl ⟨rfl, rfl⟩) (g_done (by kernel_rfl) (?_)))
              have s66 := s65.rot1.rot2
              exact j30 _ _ ⟨_, _, A64, v64, x64, A65, v65, x65, ov_self _ _ ⟨rfl, rfl, rfl, rfl, rfl, rfl, rfl, rfl, trivial⟩, (((((((e48.trans e47).trans e52).trans e54).trans e61).trans e63).trans e64).trans e65), s66, (o64.mono e65), o65, h65⟩
          · have s68 := s47.rot2
            obtain ⟨I67, e67, s67, r67⟩ := OwnSl.freeze (((((((((o9.mono e13).mono e14).mono e17).mono e25).mono e27).mono e28).mono e29).mono e48).mono e47) s68
            refine o_buildI (xs := ([gone9, ((l[j4]).Out)] : List (List Int))) (vs := [v9, v50]) sl22 s67 rfl ⟨r67, (e67.rep (e47.rep r51)), trivial⟩ rfl rfl (fun v69 I69 w69 e69 s69 r69 => ?_)
            refine wl_nil ⟨⟨_, ((e47.trans e67).trans e69)⟩, ?_⟩
            refine g_one (i := 2) rfl (by kernel_rfl) rfl (?_)
            have s71 := s69.rot1
            obtain ⟨I70, e70, s70, r70⟩ := OwnSl.freeze (((((((((((o8.mono e13).mono e14).mono e17).mono e25).mono e27).mono e28).mono e29).mono e48).mono e47).mono e67).mono e69) s71
            refine o_buildI (xs := ([came8, now18] : List (List Int))) (vs := [v8, v18]) sl22 s70 rfl ⟨r70, (e70.rep (e69.rep (e67.rep (e47.rep (e48.rep (e29.rep (e28.rep (e27.rep (e25.rep r18))))))))), trivial⟩ rfl rfl (fun v72 I72 w72 e72 s72 r72 => ?_)
            refine wl_nil ⟨⟨_, ((((e47.trans e67).trans e69).trans e70).trans e72)⟩, ?_⟩
            refine g_one (i := 3) rfl (by kernel_rfl) rfl (o_ret cc18 (Wp.c0 h30 ⟨_, _, rfl, r72, rfl, rfl⟩ s72) rfl ?_)
            rintro v73 I73 w73 e73 ⟨A73, x73, s73, o73, h73⟩
            refine wl_nil ⟨⟨_, (((((e47.trans e67).trans e69).trans e70).trans e72).trans e73)⟩, ?_⟩
            refine g_one (i := 8) rfl (by kernel_rfl) rfl (o_ret cc18 (Wp.c0 h73 ⟨_, _, rfl, (e73.rep (e72.rep (e70.rep r69))), rfl, rfl⟩ s73) rfl ?_)
            rintro v74 I74 w74 e74 ⟨A74, x74, s74, o74, h74⟩
            refine wl_nil ⟨⟨_, ((((((e47.trans e67).trans e69).trans e70).trans e72).trans e73).trans e74)⟩, ?_⟩
            refine g_op (i := 9) rfl rfl rfl (by kernel_rfl) rfl ⟨_, ((((((e47.trans e67).trans e69).trans e70).trans e72).trans e73).trans e74)⟩ (fun w' ⟨I', e'⟩ => o_asg v73 rfl ⟨rfl, rfl⟩) (g_op (i := 10) rfl rfl rfl (by kernel_rfl) rfl ⟨_, ((((((e47.trans e67).trans e69).trans e70).trans e72).trans e73).trans e74)⟩ (fun w' ⟨I', e'⟩ => o_asg v74 rfl ⟨rfl, rfl⟩) (g_done (by kernel_rfl) (?_)))
            have s75 := s74.rot1.rot2
            exact j30 _ _ ⟨_, _, A73, v73, x73, A74, v74, x74, ov_self _ _ ⟨rfl, rfl, rfl, rfl, rfl, rfl, rfl, rfl, trivial⟩, (((((((e48.trans e47).trans e67).trans e69).trans e70).trans e72).trans e73).trans e74), s75, (o73.mono e74), o74, h74⟩
      · intro j17
        refine wt_condp rfl (fun c76 => ?_) (fun c76 => ?_)
        · refine wt_region (o_mov v7 rfl (o_fieldO fl31_0 rfl (o_loadO (v := .int .i64 ((l[j4]).Part)) ty3 s14 rfl rfl (?_))))
          have h77 := (h17.1 c76)
          refine v_il (j := (Int.toNat ((l[j4]).Part))) sl22 (e14.rep (e13.rep r7)) rfl rfl (Int.toNat_of_nonneg h77.1).symm rfl ty23 h77.2 (fun q78 a78 v78 r78 h78 => ?_)
          refine o_asg v78 rfl (wl_nil (?_))
          exact j17 _ _ ⟨_, _, v78, (p7[(Int.toNat ((l[j4]).Part))]), ov_self _ _ ⟨rfl, rfl, rfl, rfl, rfl, rfl, rfl, rfl, rfl, trivial⟩, Ext.refl _ _, s14, r78, h78⟩
        · refine wt_skip (?_)
          exact j17 _ _ ⟨_, _, (.slice none 0 0), ([] : List Int), ov_self _ _ ⟨rfl, rfl, rfl, rfl, rfl, rfl, rfl, rfl, rfl, trivial⟩, Ext.refl _ _, s14, (rep_nil (by decide)), (h17.2 c76)⟩
    · refine wl_no rfl (wl_no rfl (wl_no rfl (wl_no rfl (wl_no rfl (o_pick0 rfl (wl_nil (?_)))))))
      have h79 := (h12.2 c15)
      obtain ⟨M80, k80, h80⟩ := h79
      refine wt_cut (fun f w80 => ∃ (g : Fr) (I80 : Reg) , f = ov [(2, u2), (6, v7), (7, v8), (8, v9), (10, .pointer (some ⟨bk10, 0, none⟩)), (11, .slice none 0 0), (15, u1), (16, .int .i64 (l.length : Int)), (17, .int .i64 (j4 : Int))] g ∧ Ext I4 w14 I80 w80 ∧ St I80 w80 ([(bk10, .cells #[.int .i64 ((l[j4]).Part), c12_1] 31 (0, 0))] ++ (A9 ++ (A8 ++ (A6 ++ T)))) ∧ M80 ) ?_ ?_
      · rintro f w80 ⟨g, I80, rfl, e80, s80, y80⟩
        have y80 := k80 y80
        refine wt_seq (wt_region (o_mov v8 rfl (o_mov v9 rfl (?_))))
        have s82 := s80.rot2
        obtain ⟨e81, s81, r81⟩ := OwnSl.lend (((o8.mono e13).mono e14).mono e80) s82
        have s84 := s81.rot1
        obtain ⟨e83, s83, r83⟩ := OwnSl.lend ((((o9.mono e13).mono e14).mono e80).mono e81) s84
        refine o_ret cc12 (Wp.c0 y80 ⟨_, _, rfl, (e83.rep r81), _, _, rfl, r83, rfl, rfl⟩ s83) rfl ?_
        rintro v85 I85 w85 e85 ⟨A85, x85, s85, o85, h85⟩
        obtain ⟨I86, e86, s86⟩ := St.back2 s84 e85 s85
        replace o85 := o85.flatI (I' := I86) (w' := w85)
        have s88 := s86.rot2.rot1
        obtain ⟨I87, e87, s87⟩ := St.back2 s82 e86 s88
        replace o85 := o85.flatI (I' := I87) (w' := w85)
        refine o_mov (.slice none 0 0) rfl (?_)
        obtain ⟨I89, e89, s89, r89⟩ := OwnSl.freeze o85 s87
        refine o_buildI (xs := ([x85, []] : List (List Int))) (vs := [v85, .slice none 0 0]) sl22 s89 rfl ⟨r89, (rep_nil (by decide)), trivial⟩ rfl rfl (fun v90 I90 w90 e90 s90 r90 => ?_)
        refine o_ret cc18 (Wp.c0 h85 ⟨_, _, rfl, r90, rfl, rfl⟩ s90) rfl ?_
        rintro v91 I91 w91 e91 ⟨A91, x91, s91, o91, h91⟩
        refine o_asg v91 rfl (wl_nil (wt_seq (?_)))
        obtain ⟨M92, k92, h92⟩ := h91
        refine wt_cut (fun f w92 => ∃ (g : Fr) (I92 : Reg) (A93 : Own) (v93 : Value) (came93 : List Int) (A94 : Own) (v94 : Value) (gone94 : List Int), f = ov [(2, u2), (6, v7), (7, v93), (8, v94), (12, v91), (15, u1), (16, .int .i64 (l.length : Int)), (17, .int .i64 (j4 : Int))] g ∧ Ext I91 w91 I92 w92 ∧ St I92 w92 (A91 ++ (A93 ++ (A94 ++ (A6 ++ T)))) ∧ OwnSl I92 w92 A93 v93 came93 ∧ OwnSl I92 w92 A94 v94 gone94 ∧ M92 came93 gone94) ?_ ?_
        · rintro f w92 ⟨g, I92, A93, v93, came93, A94, v94, gone94, rfl, e92, s92, o93, o94, y92⟩
          have y92 := k92 _ _ y92
          refine wt_region (o_mov u2 rfl (o_mov v91 rfl (o_mov v93 rfl (o_mov v94 rfl (?_)))))
          have s96 := s92.rot1
          obtain ⟨e95, s95, r95⟩ := OwnSl.lend o93 s96
          have s98 := s95.rot1
          obtain ⟨e97, s97, r97⟩ := OwnSl.lend (o94.mono e95) s98
          refine o_ret cc12 (Wp.c0 y92 ⟨_, _, rfl, (e97.rep r95), _, _, rfl, r97, rfl, rfl⟩ s97) rfl ?_
          rintro v99 I99 w99 e99 ⟨A99, x99, s99, o99, h99⟩
          obtain ⟨I100, e100, s100⟩ := St.back2 s98 e99 s99
          replace o99 := o99.flatI (I' := I100) (w' := w99)
          have s102 := s100.rot2.rot1
          obtain ⟨I101, e101, s101⟩ := St.back2 s96 e100 s102
          replace o99 := o99.flatI (I' := I101) (w' := w99)
          have s104 := s101.rot2
          obtain ⟨I103, e103, s103, r103⟩ := OwnSl.freeze ((o91.mono e92).mono e101) s104
          obtain ⟨I105, e105, s105, r105⟩ := OwnSl.freeze (o99.mono e103) s103
          have s107 := s105.rot2
          refine o_fv (A := A6 ++ []) ((((((((((((((f_each.mono e1).mono e3).mono e4).mono e13).mono e14).mono e80).mono e87).mono e89).mono e90).mono e91).mono e92).mono e101).mono e103).mono e105) h99 ⟨_, [], rfl, (m_each.mono e105 (m_each.mono e103 (m_each.mono e101 (m_each.mono e92 (m_each.mono e91 (m_each.mono e90 (m_each.mono e89 (m_each.mono e87 (m_each.mono e80 (m_each.mono e14 (m_each.mono e13 o6))))))))))), ⟨_, _, rfl, (e105.rep r103), _, _, rfl, r105, rfl, rfl⟩⟩ (by simpa only [List.append_assoc, List.nil_append] using s107) rfl rfl ?_
          rintro v106 I106 w106 e106 ⟨_, x106, s106, ⟨A106, _, rfl, o106, rfl, rfl⟩, h106⟩
          simp only [List.append_assoc, List.nil_append] at s106
          refine wl_nil (wt_inBlock (wt_region (o_addi rfl rfl (inr_succ0 q4n (rep_len r_l)) (o_mov (.int .i64 ((j4 : Int) + 1)) rfl (wl_nil (?_))))))
          have s108 := s106.rot1.rot2
          exact i4.out _ _ _ (by omega) ⟨_, _, j4 + 1, A106, x106.1, v7, p7, A93, v93, came93, A94, v94, gone94, ov_self _ _ ⟨rfl, rfl, rfl, rfl, rfl, rfl, rfl, trivial⟩, rfl, q4n, ((((((((((((e4.trans e13).trans e14).trans e80).trans e87).trans e89).trans e90).trans e91).trans e92).trans e101).trans e103).trans e105).trans e106), s108, o106, (e106.rep (e105.rep (e103.rep (e101.rep (e92.rep (e91.rep (e90.rep (e89.rep (e87.rep (e80.rep (e14.rep (e13.rep r7)))))))))))), ((((o93.mono e101).mono e103).mono e105).mono e106), ((((o94.mono e101).mono e103).mono e105).mono e106), h106⟩
        · intro j92
          have s111 := s91.rot2
          obtain ⟨I110, e110, s110, b110, p110, r110⟩ := freeze_blk (v := .agg #[.int .i64 ((l[j4]).Part), c12_1]) (x := l[j4]) s111 rfl (mk_Sched_Step ⟨rfl, g12_0.1, g12_0.2⟩ (e91.rep (e90.rep (e89.rep (e87.rep (e80.rep (e14.rep (e13.rep r12_1))))))))
          refine wt_drawS s110 mixed rfl (fun w109 e109 s109 => ?_)
          refine g_op (i := 0) rfl rfl rfl (by kernel_rfl) rfl ⟨_, e109⟩ (fun w' ⟨I', e'⟩ => o_mov v8 rfl ⟨rfl, rfl⟩) (g_op (i := 1) rfl rfl rfl (by kernel_rfl) rfl ⟨_, e109⟩ (fun w' ⟨I', e'⟩ => o_mov (.slice none 0 0) rfl ⟨rfl, rfl⟩) (g_op (i := 4) rfl rfl rfl (by kernel_rfl) rfl ⟨_, e109⟩ (fun w' ⟨I', e'⟩ => o_mov v9 rfl ⟨rfl, rfl⟩) (?_)))
          obtain ⟨v112, r112, p112, q112⟩ := Points.field fld_Sched_Step_1 p110 r110
          have b112 := blk_of q112 b110
          refine g_op (i := 5) rfl rfl rfl (by kernel_rfl) rfl ⟨_, e109⟩ (fun w' ⟨I', e'⟩ => o_fl fl31_1 rfl ⟨rfl, rfl⟩) (?_)
          have r113 := r112
          refine g_op (i := 6) rfl rfl rfl (by kernel_rfl) rfl ⟨_, e109⟩ (fun w' ⟨I', e'⟩ => o_load ty23 (Points.mono e' b112 p112) (e'.rep r113) rfl ⟨rfl, rfl⟩) (g_two (i := 2) (i' := 7) rfl rfl (by kernel_rfl) rfl rfl ?_ ?_)
          · have s115 := s109.rot1
            obtain ⟨I114, e114, s114, r114⟩ := OwnSl.freeze (((((((((o8.mono e13).mono e14).mono e80).mono e87).mono e89).mono e90).mono e91).mono e110).mono e109) s115
            refine o_buildI (xs := ([came8, []] : List (List Int))) (vs := [v8, .slice none 0 0]) sl22 s114 rfl ⟨r114, (rep_nil (by decide)), trivial⟩ rfl rfl (fun v116 I116 w116 e116 s116 r116 => ?_)
            refine wl_nil ⟨⟨_, ((e109.trans e114).trans e116)⟩, ?_⟩
            refine g_two (i := 3) (i' := 7) rfl rfl (by kernel_rfl) rfl rfl ?_ ?_
            · refine o_ret cc18 (Wp.c0 h92 ⟨_, _, rfl, r116, rfl, rfl⟩ s116) rfl ?_
              rintro v117 I117 w117 e117 ⟨A117, x117, s117, o117, h117⟩
              refine wl_nil ⟨⟨_, (((e109.trans e114).trans e116).trans e117)⟩, ?_⟩
              refine g_one (i := 7) rfl (by kernel_rfl) rfl (?_)
              have s119 := s117.rot2
              obtain ⟨I118, e118, s118, r118⟩ := OwnSl.freeze ((((((((((((o9.mono e13).mono e14).mono e80).mono e87).mono e89).mono e90).mono e91).mono e110).mono e109).mono e114).mono e116).mono e117) s119
              refine o_buildI (xs := ([gone9, ((l[j4]).Out)] : List (List Int))) (vs := [v9, v112]) sl22 s118 rfl ⟨r118, (e118.rep (e117.rep (e116.rep (e114.rep (e109.rep r113))))), trivial⟩ rfl rfl (fun v120 I120 w120 e120 s120 r120 => ?_)
              refine wl_nil ⟨⟨_, (((((e109.trans e114).trans e116).trans e117).trans e118).trans e120)⟩, ?_⟩
              refine g_one (i := 8) rfl (by kernel_rfl) rfl (o_ret cc18 (Wp.c0 h117 ⟨_, _, rfl, r120, rfl, rfl⟩ s120) rfl ?_)
              rintro v121 I121 w121 e121 ⟨A121, x121, s121, o121, h121⟩
              refine wl_nil ⟨⟨_, ((((((e109.trans e114).trans e116).trans e117).trans e118).trans e120).trans e121)⟩, ?_⟩
              refine g_op (i := 9) rfl rfl rfl (by kernel_rfl) rfl ⟨_, ((((((e109.trans e114).trans e116).trans e117).trans e118).trans e120).trans e121)⟩ (fun w' ⟨I', e'⟩ => o_asg v117 rfl ⟨rfl, rfl⟩) (g_op (i := 10) rfl rfl rfl (by kernel_rfl) rfl ⟨_, ((((((e109.trans e114).trans e116).trans e117).trans e118).trans e120).trans e121)⟩ (fun w' ⟨I', e'⟩ => o_asg v121 rfl ⟨rfl, rfl⟩) (g_done (by kernel_rfl) (?_)))
              have s122 := s121.rot1.rot2
              exact j92 _ _ ⟨_, _, A117, v117, x117, A121, v121, x121, ov_self _ _ ⟨rfl, rfl, rfl, rfl, rfl, rfl, rfl, rfl, trivial⟩, (((((((e110.trans e109).trans e114).trans e116).trans e117).trans e118).trans e120).trans e121), s122, (((o117.mono e118).mono e120).mono e121), o121, h121⟩
            · have s124 := s116.rot1
              obtain ⟨I123, e123, s123, r123⟩ := OwnSl.freeze (((((((((((o9.mono e13).mono e14).mono e80).mono e87).mono e89).mono e90).mono e91).mono e110).mono e109).mono e114).mono e116) s124
              refine o_buildI (xs := ([gone9, ((l[j4]).Out)] : List (List Int))) (vs := [v9, v112]) sl22 s123 rfl ⟨r123, (e123.rep (e116.rep (e114.rep (e109.rep r113)))), trivial⟩ rfl rfl (fun v125 I125 w125 e125 s125 r125 => ?_)
              refine wl_nil ⟨⟨_, ((((e109.trans e114).trans e116).trans e123).trans e125)⟩, ?_⟩
              refine g_one (i := 3) rfl (by kernel_rfl) rfl (o_ret cc18 (Wp.c0 h92 ⟨_, _, rfl, (e125.rep (e123.rep r116)), rfl, rfl⟩ s125) rfl ?_)
              rintro v126 I126 w126 e126 ⟨A126, x126, s126, o126, h126⟩
              refine wl_nil ⟨⟨_, (((((e109.trans e114).trans e116).trans e123).trans e125).trans e126)⟩, ?_⟩
              refine g_one (i := 8) rfl (by kernel_rfl) rfl (o_ret cc18 (Wp.c0 h126 ⟨_, _, rfl, (e126.rep r125), rfl, rfl⟩ s126) rfl ?_)
              rintro v127 I127 w127 e127 ⟨A127, x127, s127, o127, h127⟩
              refine wl_nil ⟨⟨_, ((((((e109.trans e114).trans e116).trans e123).trans e125).trans e126).trans e127)⟩, ?_⟩
              refine g_op (i := 9) rfl rfl rfl (by kernel_rfl) rfl ⟨_, ((((((e109.trans e114).trans e116).trans e123).trans e125).trans e126).trans e127)⟩ (fun w' ⟨I', e'⟩ => o_asg v126 rfl ⟨rfl, rfl⟩) (g_op (i := 10) rfl rfl rfl (by kernel_rfl) rfl ⟨_, ((((((e109.trans e114).trans e116).trans e123).trans e125).trans e126).trans e127)⟩ (fun w' ⟨I', e'⟩ => o_asg v127 rfl ⟨rfl, rfl⟩) (g_done (by kernel_rfl) (?_)))
              have s128 := s127.rot1.rot2
              exact j92 _ _ ⟨_, _, A126, v126, x126, A127, v127, x127, ov_self _ _ ⟨rfl, rfl, rfl, rfl, rfl, rfl, rfl, rfl, trivial⟩, (((((((e110.trans e109).trans e114).trans e116).trans e123).trans e125).trans e126).trans e127), s128, (o126.mono e127), o127, h127⟩
          · have s130 := s109.rot2
            obtain ⟨I129, e129, s129, r129⟩ := OwnSl.freeze (((((((((o9.mono e13).mono e14).mono e80).mono e87).mono e89).mono e90).mono e91).mono e110).mono e109) s130
            refine o_buildI (xs := ([gone9, ((l[j4]).Out)] : List (List Int))) (vs := [v9, v112]) sl22 s129 rfl ⟨r129, (e129.rep (e109.rep r113)), trivial⟩ rfl rfl (fun v131 I131 w131 e131 s131 r131 => ?_)
            refine wl_nil ⟨⟨_, ((e109.trans e129).trans e131)⟩, ?_⟩
            refine g_one (i := 2) rfl (by kernel_rfl) rfl (?_)
            have s133 := s131.rot1
            obtain ⟨I132, e132, s132, r132⟩ := OwnSl.freeze (((((((((((o8.mono e13).mono e14).mono e80).mono e87).mono e89).mono e90).mono e91).mono e110).mono e109).mono e129).mono e131) s133
            refine o_buildI (xs := ([came8, []] : List (List Int))) (vs := [v8, .slice none 0 0]) sl22 s132 rfl ⟨r132, (rep_nil (by decide)), trivial⟩ rfl rfl (fun v134 I134 w134 e134 s134 r134 => ?_)
            refine wl_nil ⟨⟨_, ((((e109.trans e129).trans e131).trans e132).trans e134)⟩, ?_⟩
            refine g_one (i := 3) rfl (by kernel_rfl) rfl (o_ret cc18 (Wp.c0 h92 ⟨_, _, rfl, r134, rfl, rfl⟩ s134) rfl ?_)
            rintro v135 I135 w135 e135 ⟨A135, x135, s135, o135, h135⟩
            refine wl_nil ⟨⟨_, (((((e109.trans e129).trans e131).trans e132).trans e134).trans e135)⟩, ?_⟩
            refine g_one (i := 8) rfl (by kernel_rfl) rfl (o_ret cc18 (Wp.c0 h135 ⟨_, _, rfl, (e135.rep (e134.rep (e132.rep r131))), rfl, rfl⟩ s135) rfl ?_)
            rintro v136 I136 w136 e136 ⟨A136, x136, s136, o136, h136⟩
            refine wl_nil ⟨⟨_, ((((((e109.trans e129).trans e131).trans e132).trans e134).trans e135).trans e136)⟩, ?_⟩
            refine g_op (i := 9) rfl rfl rfl (by kernel_rfl) rfl ⟨_, ((((((e109.trans e129).trans e131).trans e132).trans e134).trans e135).trans e136)⟩ (fun w' ⟨I', e'⟩ => o_asg v135 rfl ⟨rfl, rfl⟩) (g_op (i := 10) rfl rfl rfl (by kernel_rfl) rfl ⟨_, ((((((e109.trans e129).trans e131).trans e132).trans e134).trans e135).trans e136)⟩ (fun w' ⟨I', e'⟩ => o_asg v136 rfl ⟨rfl, rfl⟩) (g_done (by kernel_rfl) (?_)))
            have s137 := s136.rot1.rot2
            exact j92 _ _ ⟨_, _, A135, v135, x135, A136, v136, x136, ov_self _ _ ⟨rfl, rfl, rfl, rfl, rfl, rfl, rfl, rfl, trivial⟩, (((((((e110.trans e109).trans e129).trans e131).trans e132).trans e134).trans e135).trans e136), s137, (o135.mono e136), o136, h136⟩
      · intro j80
        refine wt_false rfl (wt_skip (?_))
        exact j80 _ _ ⟨_, _, ov_self _ _ ⟨rfl, rfl, rfl, rfl, rfl, rfl, rfl, rfl, rfl, trivial⟩, Ext.refl _ _, s14, h80⟩
  · have y4 := k4 _ _ _ _ (rng_end (I := fun j => V4 j each6 p7 came8 gone9) l4 q4 h4)
    refine wt_exit rfl (?_)
    exact ret_end_none Try.func21 rfl ((e1.trans e3).trans e4) ⟨(A6) ++ ([]), (each6, ()), (by simpa only [List.append_assoc, List.nil_append, List.append_nil] using s4.drop.drop), ⟨_, _, _, rfl, rfl, o6, ⟨rfl, rfl⟩⟩, y4⟩

def sched_Widest_1  (y0_ : Int) (ahead : List Int) (x1_ : List Int) (Q : (Int × (Unit)) → Prop) : Prop := Wp Try.prog 23 (sCap (boxD 3) (sD (sD sN))) (y0_, ahead, x1_, ()) (rCap (boxD 3) rU) Q
def sched_Widest_1_v  (y0_ : Int) (ahead : List Int) (x1_ : List Int) (Q : (Int × (Unit)) → Prop) : Prop := (ahead.length ≤ 9223372036854775807 → Q ((max y0_ (ahead.length : Int)), ()))
theorem sched_Widest_1_w  {y0_ : Int} {ahead : List Int} {x1_ : List Int} {Q : (Int × (Unit)) → Prop} (h : sched_Widest_1_v y0_ ahead x1_ Q) : sched_Widest_1 y0_ ahead x1_ Q := by
  rintro I w T A vs ⟨by0_, _, _, _, rfl, rfl, ⟨_, _, rfl, rfl, ry0_⟩, ⟨u0, _, rfl, (r_ahead : rep I w u0 ahead), u1, _, rfl, (r_x1_ : rep I w u1 x1_), rfl, rfl⟩⟩ s0
  obtain ⟨rfl, gy0_⟩ := rint_in ry0_
  simp only [List.append_assoc, List.nil_append] at s0
  refine ret_of_wt Try.func23 rfl Try.ntmps23 rfl ?_
  refine wt_region (o_loadO (v := .int .i64 y0_) ty3 s0 rfl rfl (o_mov u0 rfl (o_len' r_ahead rfl sl23 rfl (o_max2 rfl rfl (o_storeX (cs' := #[.int .i64 (max y0_ (ahead.length : Int))]) ty3 s0 rfl rfl rfl rfl rfl (fun w1 e1 s1 => ?_))))))
  refine wl_nil (?_)
  exact ret_end_none Try.func23 rfl e1 ⟨([(by0_, .cells #[.int .i64 (max y0_ (ahead.length : Int))] 3 (0, 0))]) ++ ([]), ((max y0_ (ahead.length : Int)), ()), (by simpa only [List.append_assoc, List.nil_append, List.append_nil] using s1), ⟨_, _, _, rfl, rfl, ⟨.int .i64 (max y0_ (ahead.length : Int)), _, rfl, rfl, ⟨rfl, (inr_max gy0_ (inr_len (rep_len r_ahead))).1, (inr_max gy0_ (inr_len (rep_len r_ahead))).2⟩⟩, ⟨rfl, rfl⟩⟩, (h (rep_len r_ahead))⟩

def sched_Widest  (parts : List (List Int)) (out : List Int) (l : List Sched_Step) (Q : Int → Prop) : Prop := Wp Try.prog 9 (sD (sD (sD sN))) (parts, out, l, ()) rD Q
def sched_Widest_v  (parts : List (List Int)) (out : List Int) (l : List Sched_Step) (Q : Int → Prop) : Prop := sched_live parts l (envB 23 #[] #[] (boxD 3)) (fun (a : Int × (List Int) × (List Int) × Unit) Q => sched_Widest_1 a.1 a.2.1 a.2.2.1 Q) 0 (fun x3 => Q x3.1)
theorem sched_Widest_w  {parts : List (List Int)} {out : List Int} {l : List Sched_Step} {Q : Int → Prop} (h : sched_Widest_v parts out l Q) : sched_Widest parts out l Q := by
  rintro I w T A vs ⟨u0, _, rfl, (r_parts : rep I w u0 parts), u1, _, rfl, (r_out : rep I w u1 out), u2, _, rfl, (r_l : rep I w u2 l), rfl, rfl⟩ s0
  refine ret_of_wt Try.func9 rfl Try.ntmps9 rfl ?_
  refine wt_seq (wt_region (o_assign (wl_nil (wt_seq (wt_region (o_allocO (z := .int .i64 0) (cs := #[.int .i64 0]) s0 zr3 rfl (fun bk7 w1 e1 s1 => ?_)))))))
  refine o_storeX (cs' := #[.int .i64 0]) ty3 s1 rfl rfl rfl rfl rfl (fun w2 e2 s2 => ?_)
  refine wl_nil (wt_seq (wt_region (o_mov u0 rfl (o_mov u2 rfl (o_makeFunc (vs := []) (us := [.pointer (some ⟨bk7, 0, none⟩)]) rfl rfl (o_ret cc21 (Wp.cA h ⟨_, _, rfl, (e2.rep (e1.rep r_parts)), _, _, rfl, (e2.rep (e1.rep r_l)), _, _, [(bk7, .cells #[.int .i64 0] 3 (0, 0))], _, rfl, rfl, (Fc.box (F := fun (a : Int × (List Int) × (List Int) × Unit) Q => sched_Widest_1 a.1 a.2.1 a.2.2.1 Q) cc23 (Fc.nil (fun a Q h => h))), (envB.mono (fun e h => boxD.mono e h)), ⟨_, rfl, ⟨.int .i64 0, _, rfl, rfl, (rlit (n := 0) (by decide) (by decide))⟩⟩, rfl, rfl⟩ (by simpa only [List.append_assoc, List.nil_append, List.append_nil] using s2)) rfl ?_))))))
  rintro v3 I3 w3 e3 ⟨_, x3, s3, ⟨v3_, A3_1, A3_2, hv3, rfl, ⟨b3, hb3, ob3⟩, ⟨rfl, rfl⟩⟩, h3⟩
  obtain rfl := Option.some.inj hv3
  obtain rfl : bk7 = b3 := by simpa using hb3
  obtain ⟨_, _, rfl, rfl, r3_e⟩ := ob3
  simp only [List.append_assoc, List.nil_append] at s3
  obtain ⟨rfl, g3_e⟩ := rint_in r3_e
  refine wl_nil (wt_seq (wt_region (o_loadO (v := .int .i64 x3.1) ty3 s3 rfl rfl (o_asg (.int .i64 x3.1) rfl (wl_nil (?_))))))
  exact ret_one Try.func9 rfl rfl ((e1.trans e2).trans e3) ⟨[], _, s3.drop, ⟨rfl, ⟨rfl, g3_e.1, g3_e.2⟩⟩, h3⟩

def law42_lives  (Q : Bool → Prop) : Prop := Wp Try.prog 5 sN (()) rD Q
def law42_lives_v  (Q : Bool → Prop) : Prop := sched_Plan ([([0, 1] : List Int), ([1, 2] : List Int), ([2] : List Int)] : List (List Int)) ([2, 1, 5] : List Int) (fun (x6 : List Sched_Step) => (x6.length ≤ 9223372036854775807 → ((((x6.length : Int) = 3) → (∃ q10 : 0 < x6.length, (InR ((x6[0]).Part) → (((((x6[0]).Part) = 2) → (∃ q14 : 0 < x6.length, (((x6[0]).Out).length ≤ 9223372036854775807 → ((((((x6[0]).Out).length : Int) = 1) → (∃ q19 : 0 < x6.length, (∃ q22 : 0 < ((x6[0]).Out).length, (InR (((x6[0]).Out)[0]) → ((((((x6[0]).Out)[0]) = 5) → (∃ q25 : 1 < x6.length, (InR ((x6[1]).Part) → (((((x6[1]).Part) = 1) → (∃ q29 : 1 < x6.length, (((x6[1]).Out).length ≤ 9223372036854775807 → ((((((x6[1]).Out).length : Int) = 1) → (∃ q34 : 1 < x6.length, (∃ q37 : 0 < ((x6[1]).Out).length, (InR (((x6[1]).Out)[0]) → ((((((x6[1]).Out)[0]) = 2) → (∃ q40 : 2 < x6.length, (InR ((x6[2]).Part) → (((((x6[2]).Part) = 0) → sched_Widest ([] : List (List Int)) ([] : List Int) ([] : List Sched_Step) (fun (x45 : Int) => InR x45 → Q (decide (x45 = 0)))) ∧ (¬(((x6[2]).Part) = 0) → Q false))))) ∧ (¬((((x6[1]).Out)[0]) = 2) → Q false)))))) ∧ (¬((((x6[1]).Out).length : Int) = 1) → Q false))))) ∧ (¬(((x6[1]).Part) = 1) → Q false))))) ∧ (¬((((x6[0]).Out)[0]) = 5) → Q false)))))) ∧ (¬((((x6[0]).Out).length : Int) = 1) → Q false))))) ∧ (¬(((x6[0]).Part) = 2) → Q false))))) ∧ (¬((x6.length : Int) = 3) → Q false))))
set_option maxHeartbeats 4000000 in
theorem law42_lives_w  {Q : Bool → Prop} (h : law42_lives_v  Q) : law42_lives  Q := by
  rintro I w T A vs ⟨rfl, rfl⟩ s0
  refine ret_of_wt Try.func5 rfl Try.ntmps5 rfl ?_
  refine wt_seq (wt_region (o_assign (wl_nil (wt_seq (wt_region (o_buildI (xs := ([0, 1] : List Int)) (vs := [.int .i64 0, .int .i64 1]) sl23 s0 rfl ⟨(rlit (n := 0) (by decide) (by decide)), (rlit (n := 1) (by decide) (by decide)), trivial⟩ rfl rfl (fun v1 I1 w1 e1 s1 r1 => ?_)))))))
  refine o_buildI (xs := ([1, 2] : List Int)) (vs := [.int .i64 1, .int .i64 2]) sl23 s1 rfl ⟨(rlit (n := 1) (by decide) (by decide)), (rlit (n := 2) (by decide) (by decide)), trivial⟩ rfl rfl (fun v2 I2 w2 e2 s2 r2 => ?_)
  refine o_buildI (xs := ([2] : List Int)) (vs := [.int .i64 2]) sl23 s2 rfl ⟨(rlit (n := 2) (by decide) (by decide)), trivial⟩ rfl rfl (fun v3 I3 w3 e3 s3 r3 => ?_)
  refine o_buildI (xs := ([([0, 1] : List Int), ([1, 2] : List Int), ([2] : List Int)] : List (List Int))) (vs := [v1, v2, v3]) sl22 s3 rfl ⟨(e3.rep (e2.rep r1)), (e3.rep r2), r3, trivial⟩ rfl rfl (fun v4 I4 w4 e4 s4 r4 => ?_)
  refine o_buildI (xs := ([2, 1, 5] : List Int)) (vs := [.int .i64 2, .int .i64 1, .int .i64 5]) sl23 s4 rfl ⟨(rlit (n := 2) (by decide) (by decide)), (rlit (n := 1) (by decide) (by decide)), (rlit (n := 5) (by decide) (by decide)), trivial⟩ rfl rfl (fun v5 I5 w5 e5 s5 r5 => ?_)
  refine o_ret cc6 (Wp.c0 h ⟨_, _, rfl, (e5.rep r4), _, _, rfl, r5, rfl, rfl⟩ s5) rfl ?_
  rintro v6 I6 w6 e6 ⟨A6, x6, s6, o6, h6⟩
  refine o_asg v6 rfl (wl_nil (wt_seq (wt_region (o_mov v6 rfl (o_lenO o6 rfl sl26 rfl (o_eqlv rfl rfl (o_mov (.bool (decide ((x6.length : Int) = 3))) rfl (?_))))))))
  have h7 := (h6 o6.bd)
  refine wl_casep (d := 11) rfl rfl (fun c8 => ?_) (fun c8 => ?_)
  · refine wl_yes rfl (o_mov v6 rfl (wl_yes rfl (?_)))
    obtain ⟨I9, e9, s9, r9⟩ := OwnSl.freeze o6 s6
    refine v_ix (j := 0) sl26 r9 rfl rfl rfl (h7.1 c8) (fun q10 a10 v10 p10 b10 r10 h10 => ?_)
    refine wl_yes rfl (o_field fl31_0 fld_Sched_Step_0 p10 r10 rfl (fun a11 v11 q11 p11 r11 => ?_))
    have b11 := blk_of q11 b10
    refine wl_yes rfl (o_load ty3 p11 r11 rfl (?_))
    have r12 := r11
    obtain ⟨rfl, g12⟩ := rint_in r12
    refine wl_yes rfl (o_eqlv rfl rfl (o_pickt (.bool (decide (((x6[0]).Part) = 2))) rfl rfl (o_mov (.bool (decide (((x6[0]).Part) = 2))) rfl (wl_casep (d := 18) rfl rfl (fun c13 => ?_) (fun c13 => ?_)))))
    · refine wl_yes rfl (o_mov v6 rfl (wl_yes rfl (v_ix (j := 0) sl26 r9 rfl rfl rfl ((h10 g12).1 c13) (fun q14 a14 v14 p14 b14 r14 h14 => ?_))))
      refine wl_yes rfl (o_field fl31_1 fld_Sched_Step_1 p14 r14 rfl (fun a15 v15 q15 p15 r15 => ?_))
      have b15 := blk_of q15 b14
      refine wl_yes rfl (o_load ty23 p15 r15 rfl (?_))
      have r16 := r15
      refine wl_yes rfl (o_len' r16 rfl sl23 rfl (wl_yes rfl (o_eqlv rfl rfl (o_pickt (.bool (decide ((((x6[0]).Out).length : Int) = 1))) rfl rfl (o_mov (.bool (decide ((((x6[0]).Out).length : Int) = 1))) rfl (?_))))))
      have h17 := (h14 (rep_len r16))
      refine wl_casep (d := 26) rfl rfl (fun c18 => ?_) (fun c18 => ?_)
      · refine wl_yes rfl (o_mov v6 rfl (wl_yes rfl (v_ix (j := 0) sl26 r9 rfl rfl rfl (h17.1 c18) (fun q19 a19 v19 p19 b19 r19 h19 => ?_))))
        refine wl_yes rfl (o_field fl31_1 fld_Sched_Step_1 p19 r19 rfl (fun a20 v20 q20 p20 r20 => ?_))
        have b20 := blk_of q20 b19
        refine wl_yes rfl (o_load ty23 p20 r20 rfl (?_))
        have r21 := r20
        refine wl_yes rfl (v_ix (j := 0) sl23 r21 rfl rfl rfl h19 (fun q22 a22 v22 p22 b22 r22 h22 => ?_))
        refine wl_yes rfl (o_load ty3 p22 r22 rfl (?_))
        have r23 := r22
        obtain ⟨rfl, g23⟩ := rint_in r23
        refine wl_yes rfl (o_eqlv rfl rfl (o_pickt (.bool (decide ((((x6[0]).Out)[0]) = 5))) rfl rfl (o_mov (.bool (decide ((((x6[0]).Out)[0]) = 5))) rfl (wl_casep (d := 35) rfl rfl (fun c24 => ?_) (fun c24 => ?_)))))
        · refine wl_yes rfl (o_mov v6 rfl (wl_yes rfl (v_ix (j := 1) sl26 r9 rfl rfl rfl ((h22 g23).1 c24) (fun q25 a25 v25 p25 b25 r25 h25 => ?_))))
          refine wl_yes rfl (o_field fl31_0 fld_Sched_Step_0 p25 r25 rfl (fun a26 v26 q26 p26 r26 => ?_))
          have b26 := blk_of q26 b25
          refine wl_yes rfl (o_load ty3 p26 r26 rfl (?_))
          have r27 := r26
          obtain ⟨rfl, g27⟩ := rint_in r27
          refine wl_yes rfl (o_eqlv rfl rfl (o_pickt (.bool (decide (((x6[1]).Part) = 1))) rfl rfl (o_mov (.bool (decide (((x6[1]).Part) = 1))) rfl (wl_casep (d := 42) rfl rfl (fun c28 => ?_) (fun c28 => ?_)))))
          · refine wl_yes rfl (o_mov v6 rfl (wl_yes rfl (v_ix (j := 1) sl26 r9 rfl rfl rfl ((h25 g27).1 c28) (fun q29 a29 v29 p29 b29 r29 h29 => ?_))))
            refine wl_yes rfl (o_field fl31_1 fld_Sched_Step_1 p29 r29 rfl (fun a30 v30 q30 p30 r30 => ?_))
            have b30 := blk_of q30 b29
            refine wl_yes rfl (o_load ty23 p30 r30 rfl (?_))
            have r31 := r30
            refine wl_yes rfl (o_len' r31 rfl sl23 rfl (wl_yes rfl (o_eqlv rfl rfl (o_pickt (.bool (decide ((((x6[1]).Out).length : Int) = 1))) rfl rfl (o_mov (.bool (decide ((((x6[1]).Out).length : Int) = 1))) rfl (?_))))))
            have h32 := (h29 (rep_len r31))
            refine wl_casep (d := 50) rfl rfl (fun c33 => ?_) (fun c33 => ?_)
            · refine wl_yes rfl (o_mov v6 rfl (wl_yes rfl (v_ix (j := 1) sl26 r9 rfl rfl rfl (h32.1 c33) (fun q34 a34 v34 p34 b34 r34 h34 => ?_))))
              refine wl_yes rfl (o_field fl31_1 fld_Sched_Step_1 p34 r34 rfl (fun a35 v35 q35 p35 r35 => ?_))
              have b35 := blk_of q35 b34
              refine wl_yes rfl (o_load ty23 p35 r35 rfl (?_))
              have r36 := r35
              refine wl_yes rfl (v_ix (j := 0) sl23 r36 rfl rfl rfl h34 (fun q37 a37 v37 p37 b37 r37 h37 => ?_))
              refine wl_yes rfl (o_load ty3 p37 r37 rfl (?_))
              have r38 := r37
              obtain ⟨rfl, g38⟩ := rint_in r38
              refine wl_yes rfl (o_eqlv rfl rfl (o_pickt (.bool (decide ((((x6[1]).Out)[0]) = 2))) rfl rfl (o_mov (.bool (decide ((((x6[1]).Out)[0]) = 2))) rfl (wl_casep (d := 59) rfl rfl (fun c39 => ?_) (fun c39 => ?_)))))
              · refine wl_yes rfl (o_mov v6 rfl (wl_yes rfl (v_ix (j := 2) sl26 r9 rfl rfl rfl ((h37 g38).1 c39) (fun q40 a40 v40 p40 b40 r40 h40 => ?_))))
                refine wl_yes rfl (o_field fl31_0 fld_Sched_Step_0 p40 r40 rfl (fun a41 v41 q41 p41 r41 => ?_))
                have b41 := blk_of q41 b40
                refine wl_yes rfl (o_load ty3 p41 r41 rfl (?_))
                have r42 := r41
                obtain ⟨rfl, g42⟩ := rint_in r42
                refine wl_yes rfl (o_eqlv rfl rfl (o_pickt (.bool (decide (((x6[2]).Part) = 0))) rfl rfl (o_mov (.bool (decide (((x6[2]).Part) = 0))) rfl (wl_casep (d := 66) rfl rfl (fun c43 => ?_) (fun c43 => ?_)))))
                · refine wl_yes rfl (?_)
                  have h44 := ((h40 g42).1 c43)
                  refine o_ret cc9 (Wp.c0 h44 ⟨_, _, rfl, (rep_nil (by decide)), _, _, rfl, (rep_nil (by decide)), _, _, rfl, (rep_nil (by decide)), rfl, rfl⟩ s9) rfl ?_
                  rintro v45 I45 w45 e45 ⟨A45, x45, s45, ⟨rfl, r45⟩, h45⟩
                  replace s45 := s45.of_nil
                  obtain ⟨rfl, g45⟩ := rint_in r45
                  refine wl_yes rfl (o_eqlv rfl rfl (o_pickt (.bool (decide (x45 = 0))) rfl rfl (o_asg (.bool (decide (x45 = 0))) rfl (wl_nil (?_)))))
                  exact ret_one Try.func5 rfl rfl (((((((e1.trans e2).trans e3).trans e4).trans e5).trans e6).trans e9).trans e45) ⟨[], _, s45, ⟨rfl, rfl⟩, (h45 g45)⟩
                · refine wl_no rfl (wl_no rfl (o_pick0 rfl (o_asg (.bool false) rfl (wl_nil (?_)))))
                  exact ret_one Try.func5 rfl rfl ((((((e1.trans e2).trans e3).trans e4).trans e5).trans e6).trans e9) ⟨[], _, s9, ⟨rfl, rfl⟩, ((h40 g42).2 c43)⟩
              · refine wl_no rfl (wl_no rfl (wl_no rfl (wl_no rfl (wl_no rfl (o_pick0 rfl (o_mov (.bool false) rfl (wl_no rfl (wl_no rfl (o_pick0 rfl (o_asg (.bool false) rfl (wl_nil (?_))))))))))))
                exact ret_one Try.func5 rfl rfl ((((((e1.trans e2).trans e3).trans e4).trans e5).trans e6).trans e9) ⟨[], _, s9, ⟨rfl, rfl⟩, ((h37 g38).2 c39)⟩
            · refine wl_no rfl (wl_no rfl (wl_no rfl (wl_no rfl (wl_no rfl (wl_no rfl (wl_no rfl (o_pick0 rfl (o_mov (.bool false) rfl (wl_no rfl (wl_no rfl (wl_no rfl (wl_no rfl (wl_no rfl (o_pick0 rfl (o_mov (.bool false) rfl (wl_no rfl (wl_no rfl (o_pick0 rfl (o_asg (.bool false) rfl (wl_nil (?_)))))))))))))))))))))
              exact ret_one Try.func5 rfl rfl ((((((e1.trans e2).trans e3).trans e4).trans e5).trans e6).trans e9) ⟨[], _, s9, ⟨rfl, rfl⟩, (h32.2 c33)⟩
          · refine wl_no rfl (wl_no rfl (wl_no rfl (wl_no rfl (wl_no rfl (wl_no rfl (o_pick0 rfl (o_mov (.bool false) rfl (wl_no rfl (wl_no rfl (wl_no rfl (wl_no rfl (wl_no rfl (wl_no rfl (wl_no rfl (o_pick0 rfl (o_mov (.bool false) rfl (wl_no rfl (wl_no rfl (wl_no rfl (wl_no rfl (wl_no rfl (o_pick0 rfl (o_mov (.bool false) rfl (wl_no rfl (wl_no rfl (o_pick0 rfl (o_asg (.bool false) rfl (wl_nil (?_)))))))))))))))))))))))))))))
            exact ret_one Try.func5 rfl rfl ((((((e1.trans e2).trans e3).trans e4).trans e5).trans e6).trans e9) ⟨[], _, s9, ⟨rfl, rfl⟩, ((h25 g27).2 c28)⟩
        · refine wl_no rfl (wl_no rfl (wl_no rfl (wl_no rfl (wl_no rfl (o_pick0 rfl (o_mov (.bool false) rfl (wl_no rfl (wl_no rfl (wl_no rfl (wl_no rfl (wl_no rfl (wl_no rfl (o_pick0 rfl (o_mov (.bool false) rfl (wl_no rfl (wl_no rfl (wl_no rfl (wl_no rfl (wl_no rfl (wl_no rfl (wl_no rfl (o_pick0 rfl (o_mov (.bool false) rfl (wl_no rfl (wl_no rfl (wl_no rfl (wl_no rfl (wl_no rfl (o_pick0 rfl (o_mov (.bool false) rfl (wl_no rfl (wl_no rfl (o_pick0 rfl (o_asg (.bool false) rfl (wl_nil (?_))))))))))))))))))))))))))))))))))))
          exact ret_one Try.func5 rfl rfl ((((((e1.trans e2).trans e3).trans e4).trans e5).trans e6).trans e9) ⟨[], _, s9, ⟨rfl, rfl⟩, ((h22 g23).2 c24)⟩
      · refine wl_no rfl (wl_no rfl (wl_no rfl (wl_no rfl (wl_no rfl (wl_no rfl (wl_no rfl (o_pick0 rfl (o_mov (.bool false) rfl (wl_no rfl (wl_no rfl (wl_no rfl (wl_no rfl (wl_no rfl (o_pick0 rfl (o_mov (.bool false) rfl (wl_no rfl (wl_no rfl (wl_no rfl (wl_no rfl (wl_no rfl (wl_no rfl (o_pick0 rfl (o_mov (.bool false) rfl (wl_no rfl (wl_no rfl (wl_no rfl (wl_no rfl (wl_no rfl (wl_no rfl (wl_no rfl (o_pick0 rfl (o_mov (.bool false) rfl (wl_no rfl (wl_no rfl (wl_no rfl (wl_no rfl (wl_no rfl (o_pick0 rfl (o_mov (.bool false) rfl (wl_no rfl (wl_no rfl (o_pick0 rfl (o_asg (.bool false) rfl (wl_nil (?_)))))))))))))))))))))))))))))))))))))))))))))
        exact ret_one Try.func5 rfl rfl ((((((e1.trans e2).trans e3).trans e4).trans e5).trans e6).trans e9) ⟨[], _, s9, ⟨rfl, rfl⟩, (h17.2 c18)⟩
    · refine wl_no rfl (wl_no rfl (wl_no rfl (wl_no rfl (wl_no rfl (wl_no rfl (o_pick0 rfl (o_mov (.bool false) rfl (wl_no rfl (wl_no rfl (wl_no rfl (wl_no rfl (wl_no rfl (wl_no rfl (wl_no rfl (o_pick0 rfl (o_mov (.bool false) rfl (wl_no rfl (wl_no rfl (wl_no rfl (wl_no rfl (wl_no rfl (o_pick0 rfl (o_mov (.bool false) rfl (wl_no rfl (wl_no rfl (wl_no rfl (wl_no rfl (wl_no rfl (wl_no rfl (o_pick0 rfl (o_mov (.bool false) rfl (wl_no rfl (wl_no rfl (wl_no rfl (wl_no rfl (wl_no rfl (wl_no rfl (wl_no rfl (o_pick0 rfl (o_mov (.bool false) rfl (wl_no rfl (wl_no rfl (wl_no rfl (wl_no rfl (wl_no rfl (o_pick0 rfl (o_mov (.bool false) rfl (wl_no rfl (wl_no rfl (o_pick0 rfl (o_asg (.bool false) rfl (wl_nil (?_)))))))))))))))))))))))))))))))))))))))))))))))))))))
      exact ret_one Try.func5 rfl rfl ((((((e1.trans e2).trans e3).trans e4).trans e5).trans e6).trans e9) ⟨[], _, s9, ⟨rfl, rfl⟩, ((h10 g12).2 c13)⟩
  · refine wl_no rfl (wl_no rfl (wl_no rfl (wl_no rfl (wl_no rfl (o_pick0 rfl (o_mov (.bool false) rfl (wl_no rfl (wl_no rfl (wl_no rfl (wl_no rfl (wl_no rfl (wl_no rfl (o_pick0 rfl (o_mov (.bool false) rfl (wl_no rfl (wl_no rfl (wl_no rfl (wl_no rfl (wl_no rfl (wl_no rfl (wl_no rfl (o_pick0 rfl (o_mov (.bool false) rfl (wl_no rfl (wl_no rfl (wl_no rfl (wl_no rfl (wl_no rfl (o_pick0 rfl (o_mov (.bool false) rfl (wl_no rfl (wl_no rfl (wl_no rfl (wl_no rfl (wl_no rfl (wl_no rfl (o_pick0 rfl (o_mov (.bool false) rfl (wl_no rfl (wl_no rfl (wl_no rfl (wl_no rfl (wl_no rfl (wl_no rfl (wl_no rfl (o_pick0 rfl (o_mov (.bool false) rfl (wl_no rfl (wl_no rfl (wl_no rfl (wl_no rfl (wl_no rfl (o_pick0 rfl (o_mov (.bool false) rfl (wl_no rfl (wl_no rfl (o_pick0 rfl (o_asg (.bool false) rfl (wl_nil (?_))))))))))))))))))))))))))))))))))))))))))))))))))))))))))))
    exact ret_one Try.func5 rfl rfl (((((e1.trans e2).trans e3).trans e4).trans e5).trans e6) ⟨[], _, s6.drop, ⟨rfl, rfl⟩, (h7.2 c8)⟩

def vset_Within  (a : List Int) (b : List Int) (Q : Bool → Prop) : Prop := Wp Try.prog 19 (sD (sD sN)) (a, b, ()) rD Q
def vset_Within_v  (a : List Int) (b : List Int) (Q : Bool → Prop) : Prop := vset_Less a b (fun (x1 : List Int) => (x1.length ≤ 9223372036854775807 → Q (decide ((x1.length : Int) = 0))))
theorem vset_Within_w  {a : List Int} {b : List Int} {Q : Bool → Prop} (h : vset_Within_v a b Q) : vset_Within a b Q := by
  rintro I w T A vs ⟨u0, _, rfl, (r_a : rep I w u0 a), u1, _, rfl, (r_b : rep I w u1 b), rfl, rfl⟩ s0
  refine ret_of_wt Try.func19 rfl Try.ntmps19 rfl ?_
  refine wt_seq (wt_region (o_assign (wl_nil (wt_seq (wt_region (o_mov u0 rfl (o_mov u1 rfl (o_ret cc12 (Wp.c0 h ⟨_, _, rfl, r_a, _, _, rfl, r_b, rfl, rfl⟩ s0) rfl ?_))))))))
  rintro v1 I1 w1 e1 ⟨A1, x1, s1, o1, h1⟩
  refine o_lenO o1 rfl sl23 rfl (o_eqlv rfl rfl (o_asg (.bool (decide ((x1.length : Int) = 0))) rfl (wl_nil (?_))))
  exact ret_one Try.func19 rfl rfl e1 ⟨[], _, s1.drop, ⟨rfl, rfl⟩, (h1 o1.bd)⟩

def vset_Same  (a : List Int) (b : List Int) (Q : Bool → Prop) : Prop := Wp Try.prog 20 (sD (sD sN)) (a, b, ()) rD Q
def vset_Same_v  (a : List Int) (b : List Int) (Q : Bool → Prop) : Prop := vset_Within a b (fun (x1 : Bool) => ((x1 = true → vset_Within b a (fun (x3 : Bool) => Q x3)) ∧ (x1 = false → Q false)))
theorem vset_Same_w  {a : List Int} {b : List Int} {Q : Bool → Prop} (h : vset_Same_v a b Q) : vset_Same a b Q := by
  rintro I w T A vs ⟨u0, _, rfl, (r_a : rep I w u0 a), u1, _, rfl, (r_b : rep I w u1 b), rfl, rfl⟩ s0
  refine ret_of_wt Try.func20 rfl Try.ntmps20 rfl ?_
  refine wt_seq (wt_region (o_assign (wl_nil (wt_seq (wt_region (o_mov u0 rfl (o_mov u1 rfl (o_ret cc19 (Wp.c0 h ⟨_, _, rfl, r_a, _, _, rfl, r_b, rfl, rfl⟩ s0) rfl ?_))))))))
  rintro v1 I1 w1 e1 ⟨A1, x1, s1, ⟨rfl, r1⟩, h1⟩
  replace s1 := s1.of_nil
  obtain rfl : _ = _ := r1
  refine o_mov (.bool x1) rfl (wl_caseb (d := 8) rfl rfl (fun c2 => ?_) (fun c2 => ?_))
  · refine wl_yes rfl (o_mov u1 rfl (wl_yes rfl (o_mov u0 rfl (wl_yes rfl (o_ret cc19 (Wp.c0 (h1.1 c2) ⟨_, _, rfl, (e1.rep r_b), _, _, rfl, (e1.rep r_a), rfl, rfl⟩ s1) rfl ?_)))))
    rintro v3 I3 w3 e3 ⟨A3, x3, s3, ⟨rfl, r3⟩, h3⟩
    replace s3 := s3.of_nil
    obtain rfl : _ = _ := r3
    refine o_pickt (.bool x3) rfl rfl (o_asg (.bool x3) rfl (wl_nil (?_)))
    exact ret_one Try.func20 rfl rfl (e1.trans e3) ⟨[], _, s3, ⟨rfl, rfl⟩, h3⟩
  · refine wl_no rfl (wl_no rfl (wl_no rfl (o_pick0 rfl (o_asg (.bool false) rfl (wl_nil (?_))))))
    exact ret_one Try.func20 rfl rfl e1 ⟨[], _, s1, ⟨rfl, rfl⟩, (h1.2 c2)⟩

def sched_Right  (parts : List (List Int)) (out : List Int) (l : List Sched_Step) (Q : Bool → Prop) : Prop := Wp Try.prog 7 (sD (sD (sD sN))) (parts, out, l, ()) rD Q
def sched_Right_v  (parts : List (List Int)) (out : List Int) (l : List Sched_Step) (Q : Bool → Prop) : Prop := sched_sets parts (fun (x1 : List (List Int)) => vset_Of out (fun (x2 : List Int) => (l.length ≤ 9223372036854775807 → (x1.length ≤ 9223372036854775807 → ((¬((l.length : Int) = (x1.length : Int)) → Q false) ∧ (((l.length : Int) = (x1.length : Int)) → (l.length ≤ 9223372036854775807 → Rng1 l.length (fun j7 q7 V7 (at9 : List (Int × Int)) => (∃ q10 : j7 < l.length, (InR ((mget at9 ((l[j7]).Part)).getD 0) → ((((mget at9 ((l[j7]).Part)).isSome) = true → Q false) ∧ (((mget at9 ((l[j7]).Part)).isSome) = false → ((((l[j7]).Part < 0) → Q false) ∧ (¬((l[j7]).Part < 0) → (x1.length ≤ 9223372036854775807 → ((((x1.length : Int) ≤ (l[j7]).Part) → Q false) ∧ (¬((x1.length : Int) ≤ (l[j7]).Part) → V7 (mset at9 ((l[j7]).Part) (j7 : Int)))))))))))) (fun (at9 : List (Int × Int)) => (x1.length ≤ 9223372036854775807 → ((((x1.length : Int) = 0) → Q true) ∧ (¬((x1.length : Int) = 0) → (l.length ≤ 9223372036854775807 → Rng1 l.length (fun j29 q29 V29 (gone30 : List Int) => (∃ q33 : j29 < l.length, vset_Of ((l[j29]).Out) (fun (x36 : List Int) => vset_Within x36 x2 (fun (x40 : Bool) => (((!x40) = true → Q false) ∧ ((!x40) = false → vset_Meet x36 gone30 (fun (x49 : List Int) => (x49.length ≤ 9223372036854775807 → (((0 < (x49.length : Int)) → Q false) ∧ (¬(0 < (x49.length : Int)) → (x1.length ≤ 9223372036854775807 → Rng0 x1.length (fun j56 q56 V56 => (∃ q59 : j56 < x1.length, (InR ((mget at9 (j56 : Int)).getD 0) → ((((j29 : Int) < ((mget at9 (j56 : Int)).getD 0)) → vset_Meet (x1[j56]) x36 (fun (x66 : List Int) => (x66.length ≤ 9223372036854775807 → (((0 < (x66.length : Int)) → Q false) ∧ (¬(0 < (x66.length : Int)) → V56))))) ∧ (¬((j29 : Int) < ((mget at9 (j56 : Int)).getD 0)) → V56))))) (vset_Union ([gone30, x36] : List (List Int)) (fun (x76 : List Int) => V29 x76))))))))))))) (fun (gone30 : List Int) => vset_Same gone30 x2 (fun (x80 : Bool) => Q x80)) []))))) ([] : List (Int × Int)))))))))
set_option maxHeartbeats 4000000 in
theorem sched_Right_w  {parts : List (List Int)} {out : List Int} {l : List Sched_Step} {Q : Bool → Prop} (h : sched_Right_v parts out l Q) : sched_Right parts out l Q := by
  rintro I w T A vs ⟨u0, _, rfl, (r_parts : rep I w u0 parts), u1, _, rfl, (r_out : rep I w u1 out), u2, _, rfl, (r_l : rep I w u2 l), rfl, rfl⟩ s0
  refine ret_of_wt Try.func7 rfl Try.ntmps7 rfl ?_
  refine wt_seq (wt_region (o_assign (wl_nil (wt_seq (wt_region (o_mov u0 rfl (o_ret cc10 (Wp.c0 h ⟨_, _, rfl, r_parts, rfl, rfl⟩ s0) rfl ?_)))))))
  rintro v1 I1 w1 e1 ⟨A1, x1, s1, o1, h1⟩
  refine o_mov u1 rfl (o_ret cc11 (Wp.c0 h1 ⟨_, _, rfl, (e1.rep r_out), rfl, rfl⟩ s1) rfl ?_)
  rintro v2 I2 w2 e2 ⟨A2, x2, s2, o2, h2⟩
  refine o_asg v1 rfl (o_asg v2 rfl (wl_nil (wt_seq (wt_seq (wt_region (o_mov u2 rfl (o_len' (e2.rep (e1.rep r_l)) rfl sl26 rfl (o_mov v1 rfl (o_lenO (o1.mono e2) rfl sl22 rfl (o_nev rfl rfl (wl_nil (?_))))))))))))
  have h3 := ((h2 (rep_len r_l)) o1.bd)
  refine wt_condn rfl (fun c4 => ?_) (fun c4 => ?_)
  · refine wt_seq (wt_region (o_assign (wl_nil (?_))))
    exact ret_one Try.func7 rfl rfl (e1.trans e2) ⟨[], _, s2.drop.drop, ⟨rfl, rfl⟩, (h3.1 c4)⟩
  · refine wt_skip (wt_seq (wt_region (o_makeMap Int Int s2 (fun v5 A5 w5 e5 s5 o5 => ?_))))
    refine o_asg v5 rfl (wl_nil (wt_seq (wt_seq (wt_region (o_mov u2 rfl (o_len' (e5.rep (e2.rep (e1.rep r_l))) rfl sl26 rfl (o_move (wl_nil (wt_block (?_))))))))))
    have h6 := ((h3.2 c4) (rep_len r_l))
    obtain ⟨V7, z7, b7, k7⟩ := h6
    refine wt_loop (fun n f w7 => ∃ (g : Fr) (I7 : Reg) (j7 : Nat) (A9 : Own) (v9 : Value) (at9 : List (Int × Int)), f = ov [(2, u2), (7, v1), (8, v2), (9, v9), (30, u2), (31, .int .i64 (l.length : Int)), (32, .int .i64 (j7 : Int))] g ∧ n = l.length - j7 ∧ j7 ≤ l.length ∧ Ext I2 w5 I7 w7 ∧ St I7 w7 (A9 ++ (A2 ++ (A1 ++ T))) ∧ OwnMap I7 w7 A9 v9 at9 ∧ V7 j7 at9) _ ⟨_, _, 0, A5, v5, ([] : List (Int × Int)), ov_self _ _ ⟨rfl, rfl, rfl, rfl, rfl, rfl, rfl, trivial⟩, rfl, Nat.zero_le _, Ext.refl _ _, s5, o5, z7⟩ ?_
    rintro n f w7 ⟨g, I7, j7, A9, v9, at9, rfl, rfl, l7, e7, s7, o9, h7⟩ i7
    refine wt_seq (wt_region (o_lssv rfl rfl (wl_nil (wt_seq (wt_condp rfl (fun q7 => ?_) (fun q7 => ?_))))))
    · have y7 := b7 _ (rng_lt q7) _ h7
      have q7n := rng_lt q7
      refine wt_skip (wt_seq (wt_block (wt_seq (wt_region (o_mov (.int .i64 (j7 : Int)) rfl (v_il (j := j7) sl26 (e7.rep (e5.rep (e2.rep (e1.rep r_l)))) rfl rfl rfl rfl ty31 y7 (fun q10 a10 v10 r10 h10 => ?_)))))))
      obtain ⟨c10_0, c10_1, rfl, rr10_0, r10_1⟩ := open_Sched_Step r10
      obtain ⟨rfl, g10_0⟩ := rint_in rr10_0
      refine o_allocO (z := .agg #[.int .i64 0, .slice none 0 0]) (cs := #[.int .i64 0, .slice none 0 0]) s7 zr31 rfl (fun bk11 w11 e11 s11 => ?_)
      refine o_asg (.int .i64 (j7 : Int)) rfl (o_storeB (vs := [.int .i64 ((l[j7]).Part), c10_1]) ty31 s11 rfl rfl rfl rfl ⟨rfl, (one1 rfl (e11.rep r10_1)), trivial⟩ (fun w12 e12 s12 => ?_))
      refine wl_nil (wt_seq (wt_seq (wt_region (o_mov v9 rfl (o_fieldO fl31_0 rfl (o_loadO (v := .int .i64 ((l[j7]).Part)) ty3 s12 rfl rfl (?_)))))))
      have s14 := s12.rot1
      refine o_lookupOk (zv := .int .i64 0) (zd := (0 : Int)) mt39 ((o9.mono e11).mono e12) s14 rfl rfl ⟨rfl, g10_0.1, g10_0.2⟩ (zv3 _) ⟨rfl, by decide, by decide⟩ (fun v13 r13 => ?_)
      obtain ⟨rfl, g13⟩ := rint_in r13
      refine o_mov (.tuple #[.int .i64 ((mget at9 ((l[j7]).Part)).getD 0), .bool ((mget at9 ((l[j7]).Part)).isSome)]) rfl (o_extract rfl rfl (o_extract rfl rfl (o_asg (.int .i64 ((mget at9 ((l[j7]).Part)).getD 0)) rfl (o_asg (.bool ((mget at9 ((l[j7]).Part)).isSome)) rfl (wl_nil (wt_seq (wt_region (o_mov (.bool ((mget at9 ((l[j7]).Part)).isSome)) rfl (o_mov (.bool ((mget at9 ((l[j7]).Part)).isSome)) rfl (wl_caseb (d := 45) rfl rfl (fun c15 => ?_) (fun c15 => ?_)))))))))))
      · refine wl_no rfl (wl_no rfl (wl_no rfl (o_pick1 rfl (o_mov (.bool true) rfl (wl_no rfl (wl_no rfl (wl_no rfl (wl_no rfl (wl_no rfl (o_pick1 rfl (wl_nil (wt_true rfl (wt_seq (wt_region (o_assign (wl_nil (?_)))))))))))))))))
        exact ret_one Try.func7 rfl rfl (((((e1.trans e2).trans e5).trans e7).trans e11).trans e12) ⟨[], _, s14.drop.drop.drop.drop, ⟨rfl, rfl⟩, ((h10 g13).1 c15)⟩
      · refine wl_yes rfl (o_fieldO fl31_0 rfl (wl_yes rfl (?_)))
        have s16 := s14.rot1
        refine o_loadO (v := .int .i64 ((l[j7]).Part)) ty3 s16 rfl rfl (wl_yes rfl (o_lssv rfl rfl (o_pickf (.bool (decide ((l[j7]).Part < 0))) rfl rfl (o_mov (.bool (decide ((l[j7]).Part < 0))) rfl (?_)))))
        have h17 := ((h10 g13).2 c15)
        refine wl_casep (d := 50) rfl rfl (fun c18 => ?_) (fun c18 => ?_)
        · refine wl_no rfl (wl_no rfl (wl_no rfl (wl_no rfl (wl_no rfl (o_pick1 rfl (wl_nil (wt_true rfl (wt_seq (wt_region (o_assign (wl_nil (?_))))))))))))
          exact ret_one Try.func7 rfl rfl (((((e1.trans e2).trans e5).trans e7).trans e11).trans e12) ⟨[], _, s16.drop.drop.drop.drop, ⟨rfl, rfl⟩, (h17.1 c18)⟩
        · refine wl_yes rfl (o_fieldO fl31_0 rfl (wl_yes rfl (o_loadO (v := .int .i64 ((l[j7]).Part)) ty3 s16 rfl rfl (wl_yes rfl (o_mov v1 rfl (wl_yes rfl (o_lenO (((((o1.mono e2).mono e5).mono e7).mono e11).mono e12) rfl sl22 rfl (wl_yes rfl (o_geqv rfl rfl (o_pickf (.bool (decide ((x1.length : Int) ≤ (l[j7]).Part))) rfl rfl (wl_nil (?_))))))))))))
          have h19 := ((h17.2 c18) o1.bd)
          refine wt_condp rfl (fun c20 => ?_) (fun c20 => ?_)
          · refine wt_seq (wt_region (o_assign (wl_nil (?_))))
            exact ret_one Try.func7 rfl rfl (((((e1.trans e2).trans e5).trans e7).trans e11).trans e12) ⟨[], _, s16.drop.drop.drop.drop, ⟨rfl, rfl⟩, (h19.1 c20)⟩
          · refine wt_skip (wt_region (o_mov v9 rfl (o_fieldO fl31_0 rfl (o_loadO (v := .int .i64 ((l[j7]).Part)) ty3 s16 rfl rfl (o_mov (.int .i64 (j7 : Int)) rfl (?_))))))
            have s22 := s16.rot1
            refine o_mapSet mt39 ((o9.mono e11).mono e12) s22 rfl rfl rfl ⟨rfl, g10_0.1, g10_0.2⟩ ⟨rfl, (inr_nat l7 (rep_len r_l)).1, (inr_nat l7 (rep_len r_l)).2⟩ (fun A21 w21 e21 s21 o21 => ?_)
            refine wl_nil (wt_inBlock (wt_region (o_addi rfl rfl (inr_succ0 q7n (rep_len r_l)) (o_mov (.int .i64 ((j7 : Int) + 1)) rfl (wl_nil (?_))))))
            have s23 := s21.rot1
            exact i7.out _ _ _ (by omega) ⟨_, _, j7 + 1, A21, v9, (mset at9 ((l[j7]).Part) (j7 : Int)), ov_self _ _ ⟨rfl, rfl, rfl, rfl, rfl, rfl, rfl, trivial⟩, rfl, q7n, (((e7.trans e11).trans e12).trans e21), s23.drop, o21, (h19.2 c20)⟩
    · have y7 := k7 _ (rng_end (I := fun j => V7 j at9) l7 q7 h7)
      refine wt_exit rfl (wt_seq (wt_seq (wt_region (o_mov v1 rfl (o_lenO (((o1.mono e2).mono e5).mono e7) rfl sl22 rfl (o_eqlv rfl rfl (wl_nil (?_))))))))
      have h24 := (y7 o1.bd)
      refine wt_condp rfl (fun c25 => ?_) (fun c25 => ?_)
      · refine wt_seq (wt_region (o_assign (wl_nil (?_))))
        exact ret_one Try.func7 rfl rfl (((e1.trans e2).trans e5).trans e7) ⟨[], _, s7.drop.drop.drop, ⟨rfl, rfl⟩, (h24.1 c25)⟩
      · refine wt_skip (wt_seq (wt_region (o_assign (wl_nil (wt_seq (wt_seq (wt_region (o_mov u2 rfl (o_len' (e7.rep (e5.rep (e2.rep (e1.rep r_l)))) rfl sl26 rfl (o_move (wl_nil (wt_block (?_)))))))))))))
        have h26 := ((h24.2 c25) (rep_len r_l))
        have s28 := s7.rot2
        obtain ⟨I27, e27, s27, r27⟩ := OwnSl.freeze (((o1.mono e2).mono e5).mono e7) s28
        obtain ⟨V29, z29, b29, k29⟩ := h26
        refine wt_loop (fun n f w29 => ∃ (g : Fr) (I29 : Reg) (j29 : Nat) (A30 : Own) (v30 : Value) (gone30 : List Int), f = ov [(7, v1), (8, v2), (9, v9), (14, v30), (65, u2), (66, .int .i64 (l.length : Int)), (67, .int .i64 (j29 : Int))] g ∧ n = l.length - j29 ∧ j29 ≤ l.length ∧ Ext I27 w7 I29 w29 ∧ St I29 w29 (A30 ++ (A9 ++ (A2 ++ T))) ∧ OwnSl I29 w29 A30 v30 gone30 ∧ V29 j29 gone30) _ ⟨_, _, 0, [], (.slice none 0 0), [], ov_self _ _ ⟨rfl, rfl, rfl, rfl, rfl, rfl, rfl, trivial⟩, rfl, Nat.zero_le _, Ext.refl _ _, s27, OwnSl.nil, z29⟩ ?_
        rintro n f w29 ⟨g, I29, j29, A30, v30, gone30, rfl, rfl, l29, e29, s29, o30, h29⟩ i29
        refine wt_seq (wt_region (o_lssv rfl rfl (wl_nil (wt_seq (wt_condp rfl (fun q29 => ?_) (fun q29 => ?_))))))
        · have y29 := b29 _ (rng_lt q29) _ h29
          have q29n := rng_lt q29
          refine wt_skip (wt_seq (wt_block (wt_seq (wt_region (o_mov (.int .i64 (j29 : Int)) rfl (v_il (j := j29) sl26 (e29.rep (e27.rep (e7.rep (e5.rep (e2.rep (e1.rep r_l)))))) rfl rfl rfl rfl ty31 y29 (fun q33 a33 v33 r33 h33 => ?_)))))))
          obtain ⟨c33_0, c33_1, rfl, rr33_0, r33_1⟩ := open_Sched_Step r33
          obtain ⟨rfl, g33_0⟩ := rint_in rr33_0
          refine o_allocO (z := .agg #[.int .i64 0, .slice none 0 0]) (cs := #[.int .i64 0, .slice none 0 0]) s29 zr31 rfl (fun bk16 w34 e34 s34 => ?_)
          refine o_asg (.int .i64 (j29 : Int)) rfl (o_storeB (vs := [.int .i64 ((l[j29]).Part), c33_1]) ty31 s34 rfl rfl rfl rfl ⟨rfl, (one1 rfl (e34.rep r33_1)), trivial⟩ (fun w35 e35 s35 => ?_))
          refine wl_nil (wt_seq (wt_region (o_fieldO fl31_1 rfl (o_loadO (v := c33_1) ty23 s35 rfl rfl (o_ret cc11 (Wp.c0 h33 ⟨_, _, rfl, (e35.rep (e34.rep r33_1)), rfl, rfl⟩ s35) rfl ?_)))))
          rintro v36 I36 w36 e36 ⟨A36, x36, s36, o36, h36⟩
          refine o_asg v36 rfl (wl_nil (wt_seq (wt_seq (wt_region (o_mov v36 rfl (o_mov v2 rfl (?_)))))))
          obtain ⟨e37, s37, r37⟩ := OwnSl.lend o36 s36
          have s39 := s37.rot3
          obtain ⟨e38, s38, r38⟩ := OwnSl.lend ((((((((o2.mono e5).mono e7).mono e27).mono e29).mono e34).mono e35).mono e36).mono e37) s39
          refine o_ret cc19 (Wp.c0 h36 ⟨_, _, rfl, (e38.rep r37), _, _, rfl, r38, rfl, rfl⟩ s38) rfl ?_
          rintro v40 I40 w40 e40 ⟨A40, x40, s40, ⟨rfl, r40⟩, h40⟩
          replace s40 := s40.of_nil
          obtain rfl : _ = _ := r40
          obtain ⟨I41, e41, s41⟩ := St.back s39 e40 s40
          have s43 := s41.rot3.rot3.rot3
          obtain ⟨I42, e42, s42⟩ := St.back s36 e41 s43
          refine o_not rfl (o_mov (.bool (!x40)) rfl (wl_caseb (d := 79) rfl rfl (fun c44 => ?_) (fun c44 => ?_)))
          · refine wl_no rfl (wl_no rfl (wl_no rfl (wl_no rfl (wl_no rfl (o_pick1 rfl (wl_nil (wt_true rfl (wt_seq (wt_region (o_assign (wl_nil (?_))))))))))))
            exact ret_one Try.func7 rfl rfl (((((((((e1.trans e2).trans e5).trans e7).trans e27).trans e29).trans e34).trans e35).trans e36).trans e42) ⟨[], _, s42.drop.drop.drop.drop.drop, ⟨rfl, rfl⟩, (h40.1 c44)⟩
          · refine wl_yes rfl (o_mov v36 rfl (wl_yes rfl (o_mov v30 rfl (wl_yes rfl (?_)))))
            have h45 := (h40.2 c44)
            obtain ⟨e46, s46, r46⟩ := OwnSl.lend (o36.mono e42) s42
            have s48 := s46.rot1
            obtain ⟨e47, s47, r47⟩ := OwnSl.lend (((((o30.mono e34).mono e35).mono e36).mono e42).mono e46) s48
            refine o_ret cc13 (Wp.c0 h45 ⟨_, _, rfl, (e47.rep r46), _, _, rfl, r47, rfl, rfl⟩ s47) rfl ?_
            rintro v49 I49 w49 e49 ⟨A49, x49, s49, o49, h49⟩
            obtain ⟨I50, e50, s50⟩ := St.back2 s48 e49 s49
            replace o49 := o49.flatI (I' := I50) (w' := w49)
            have s52 := s50.rot2.rot1
            obtain ⟨I51, e51, s51⟩ := St.back2 s42 e50 s52
            replace o49 := o49.flatI (I' := I51) (w' := w49)
            refine wl_yes rfl (o_lenO o49 rfl sl23 rfl (wl_yes rfl (o_gtrv rfl rfl (o_pickf (.bool (decide (0 < (x49.length : Int)))) rfl rfl (wl_nil (?_))))))
            have h53 := (h49 o49.bd)
            refine wt_condp rfl (fun c54 => ?_) (fun c54 => ?_)
            · refine wt_seq (wt_region (o_assign (wl_nil (?_))))
              exact ret_one Try.func7 rfl rfl ((((((((((e1.trans e2).trans e5).trans e7).trans e27).trans e29).trans e34).trans e35).trans e36).trans e42).trans e51) ⟨[], _, s51.drop.drop.drop.drop.drop.drop, ⟨rfl, rfl⟩, (h53.1 c54)⟩
            · refine wt_skip (wt_seq (wt_seq (wt_region (o_mov v1 rfl (o_len' (e51.rep (e42.rep (e36.rep (e35.rep (e34.rep (e29.rep r27)))))) rfl sl22 rfl (o_move (wl_nil (wt_block (?_)))))))))
              have h55 := ((h53.2 c54) o1.bd)
              have s58 := s51.rot2.rot1
              obtain ⟨V56, z56, b56, k56⟩ := h55
              refine wt_loop (fun n f w56 => ∃ (g : Fr) (I56 : Reg) (j56 : Nat) , f = ov [(7, v1), (8, v2), (9, v9), (14, v30), (15, .int .i64 (j29 : Int)), (17, v36), (65, u2), (66, .int .i64 (l.length : Int)), (67, .int .i64 (j29 : Int)), (86, v1), (87, .int .i64 (x1.length : Int)), (88, .int .i64 (j56 : Int))] g ∧ n = x1.length - j56 ∧ j56 ≤ x1.length ∧ Ext I51 w49 I56 w56 ∧ St I56 w56 (A36 ++ (A30 ++ (A9 ++ (A2 ++ T)))) ∧ V56 j56 ) _ ⟨_, _, 0, ov_self _ _ ⟨rfl, rfl, rfl, rfl, rfl, rfl, rfl, rfl, rfl, rfl, rfl, rfl, trivial⟩, rfl, Nat.zero_le _, Ext.refl _ _, s58.drop.drop, z56⟩ ?_
              rintro n f w56 ⟨g, I56, j56, rfl, rfl, l56, e56, s56, h56⟩ i56
              refine wt_seq (wt_region (o_lssv rfl rfl (wl_nil (wt_seq (wt_condp rfl (fun q56 => ?_) (fun q56 => ?_))))))
              · have y56 := b56 _ (rng_lt q56) h56
                have q56n := rng_lt q56
                refine wt_skip (wt_seq (wt_block (wt_seq (wt_region (o_mov (.int .i64 (j56 : Int)) rfl (v_il (j := j56) sl22 (e56.rep (e51.rep (e42.rep (e36.rep (e35.rep (e34.rep (e29.rep r27))))))) rfl rfl rfl rfl ty23 y56 (fun q59 a59 v59 r59 h59 => ?_)))))))
                refine o_asg (.int .i64 (j56 : Int)) rfl (o_asg v59 rfl (wl_nil (wt_seq (wt_region (o_mov v9 rfl (o_mov (.int .i64 (j56 : Int)) rfl (?_)))))))
                have s61 := s56.rot2
                refine o_lookup (zv := .int .i64 0) (zd := (0 : Int)) mt39 ((((((((o9.mono e27).mono e29).mono e34).mono e35).mono e36).mono e42).mono e51).mono e56) s61 rfl rfl ⟨rfl, (inr_nat l56 o1.bd).1, (inr_nat l56 o1.bd).2⟩ (zv3 _) ⟨rfl, by decide, by decide⟩ (fun v60 r60 => ?_)
                obtain ⟨rfl, g60⟩ := rint_in r60
                refine o_mov (.int .i64 (j29 : Int)) rfl (o_gtrv rfl rfl (o_mov (.bool (decide ((j29 : Int) < ((mget at9 (j56 : Int)).getD 0)))) rfl (wl_casep (d := 98) rfl rfl (fun c62 => ?_) (fun c62 => ?_))))
                · refine wl_yes rfl (o_mov v59 rfl (wl_yes rfl (o_mov v36 rfl (wl_yes rfl (?_)))))
                  have h63 := ((h59 g60).1 c62)
                  have s65 := s61.rot1
                  obtain ⟨e64, s64, r64⟩ := OwnSl.lend (((o36.mono e42).mono e51).mono e56) s65
                  refine o_ret cc13 (Wp.c0 h63 ⟨_, _, rfl, (e64.rep r59), _, _, rfl, r64, rfl, rfl⟩ s64) rfl ?_
                  rintro v66 I66 w66 e66 ⟨A66, x66, s66, o66, h66⟩
                  obtain ⟨I67, e67, s67⟩ := St.back2 s65 e66 s66
                  replace o66 := o66.flatI (I' := I67) (w' := w66)
                  refine wl_yes rfl (o_lenO o66 rfl sl23 rfl (wl_yes rfl (o_gtrv rfl rfl (o_pickt (.bool (decide (0 < (x66.length : Int)))) rfl rfl (wl_nil (?_))))))
                  have h68 := (h66 o66.bd)
                  refine wt_condp rfl (fun c69 => ?_) (fun c69 => ?_)
                  · refine wt_seq (wt_region (o_assign (wl_nil (?_))))
                    exact ret_one Try.func7 rfl rfl ((((((((((((e1.trans e2).trans e5).trans e7).trans e27).trans e29).trans e34).trans e35).trans e36).trans e42).trans e51).trans e56).trans e67) ⟨[], _, s67.drop.drop.drop.drop.drop, ⟨rfl, rfl⟩, (h68.1 c69)⟩
                  · refine wt_skip (wt_inBlock (wt_region (o_addi rfl rfl (inr_succ0 q56n o1.bd) (o_mov (.int .i64 ((j56 : Int) + 1)) rfl (wl_nil (?_))))))
                    have s70 := s67.rot3.rot2.rot2
                    exact i56.out _ _ _ (by omega) ⟨_, _, j56 + 1, ov_self _ _ ⟨rfl, rfl, rfl, rfl, rfl, rfl, rfl, rfl, rfl, rfl, rfl, rfl, trivial⟩, rfl, q56n, (e56.trans e67), s70.drop, (h68.2 c69)⟩
                · refine wl_no rfl (wl_no rfl (wl_no rfl (wl_no rfl (wl_no rfl (o_pick0 rfl (wl_nil (wt_false rfl (wt_skip (wt_inBlock (wt_region (o_addi rfl rfl (inr_succ0 q56n o1.bd) (o_mov (.int .i64 ((j56 : Int) + 1)) rfl (wl_nil (?_))))))))))))))
                  have s71 := s61.rot2.rot2
                  exact i56.out _ _ _ (by omega) ⟨_, _, j56 + 1, ov_self _ _ ⟨rfl, rfl, rfl, rfl, rfl, rfl, rfl, rfl, rfl, rfl, rfl, rfl, trivial⟩, rfl, q56n, e56, s71, ((h59 g60).2 c62)⟩
              · have y56 := k56 (rng_end (I := fun j => V56 j ) l56 q56 h56)
                refine wt_exit rfl (wt_region (o_mov v30 rfl (o_mov v36 rfl (?_))))
                have s73 := s56.rot1
                obtain ⟨I72, e72, s72, r72⟩ := OwnSl.freeze ((((((o30.mono e34).mono e35).mono e36).mono e42).mono e51).mono e56) s73
                obtain ⟨I74, e74, s74, r74⟩ := OwnSl.freeze ((((o36.mono e42).mono e51).mono e56).mono e72) s72
                refine o_buildI (xs := ([gone30, x36] : List (List Int))) (vs := [v30, v36]) sl22 s74 rfl ⟨(e74.rep r72), r74, trivial⟩ rfl rfl (fun v75 I75 w75 e75 s75 r75 => ?_)
                refine o_ret cc18 (Wp.c0 y56 ⟨_, _, rfl, r75, rfl, rfl⟩ s75) rfl ?_
                rintro v76 I76 w76 e76 ⟨A76, x76, s76, o76, h76⟩
                refine o_asg v76 rfl (wl_nil (wt_inBlock (wt_region (o_addi rfl rfl (inr_succ0 q29n (rep_len r_l)) (o_mov (.int .i64 ((j29 : Int) + 1)) rfl (wl_nil (?_)))))))
                exact i29.out _ _ _ (by omega) ⟨_, _, j29 + 1, A76, v76, x76, ov_self _ _ ⟨rfl, rfl, rfl, rfl, rfl, rfl, rfl, trivial⟩, rfl, q29n, ((((((((((e29.trans e34).trans e35).trans e36).trans e42).trans e51).trans e56).trans e72).trans e74).trans e75).trans e76), s76, o76, h76⟩
        · have y29 := k29 _ (rng_end (I := fun j => V29 j gone30) l29 q29 h29)
          refine wt_exit rfl (wt_seq (wt_region (o_mov v30 rfl (o_mov v2 rfl (?_)))))
          obtain ⟨e77, s77, r77⟩ := OwnSl.lend o30 s29
          have s79 := s77.rot1
          obtain ⟨e78, s78, r78⟩ := OwnSl.lend (((((o2.mono e5).mono e7).mono e27).mono e29).mono e77) s79
          refine o_ret cc20 (Wp.c0 y29 ⟨_, _, rfl, (e78.rep r77), _, _, rfl, r78, rfl, rfl⟩ s78) rfl ?_
          rintro v80 I80 w80 e80 ⟨A80, x80, s80, ⟨rfl, r80⟩, h80⟩
          replace s80 := s80.of_nil
          obtain rfl : _ = _ := r80
          obtain ⟨I81, e81, s81⟩ := St.back s79 e80 s80
          have s83 := s81.rot1
          obtain ⟨I82, e82, s82⟩ := St.back s29 e81 s83
          refine o_asg (.bool x80) rfl (wl_nil (?_))
          exact ret_one Try.func7 rfl rfl ((((((e1.trans e2).trans e5).trans e7).trans e27).trans e29).trans e82) ⟨[], _, s82.drop.drop.drop, ⟨rfl, rfl⟩, h80⟩

def sched_Live_1  (y0_ : List Int) (x0_ : List Int) (behind : List Int) (Q : ((List Int) × (Unit)) → Prop) : Prop := Wp Try.prog 22 (sCap (boxO 23) (sD (sD sN))) (y0_, x0_, behind, ()) (rCap (boxO 23) rU) Q
def sched_Live_1_v  (y0_ : List Int) (x0_ : List Int) (behind : List Int) (Q : ((List Int) × (Unit)) → Prop) : Prop := (behind.length ≤ 9223372036854775807 → ((y0_.length + 1) * 8 ≤ 140737488355328 ∧ Q ((y0_ ++ [(behind.length : Int)]), ())))
theorem sched_Live_1_w  {y0_ : List Int} {x0_ : List Int} {behind : List Int} {Q : ((List Int) × (Unit)) → Prop} (h : sched_Live_1_v y0_ x0_ behind Q) : sched_Live_1 y0_ x0_ behind Q := by
  rintro I w T A vs ⟨by0_, _, _, _, rfl, rfl, ⟨vy0_, Ay0_, rfl, oy0_⟩, ⟨u0, _, rfl, (r_x0_ : rep I w u0 x0_), u1, _, rfl, (r_behind : rep I w u1 behind), rfl, rfl⟩⟩ s0
  simp only [List.append_assoc, List.nil_append] at s0
  refine ret_of_wt Try.func22 rfl Try.ntmps22 rfl ?_
  refine wt_region (o_loadO (v := vy0_) ty23 s0 rfl rfl (o_mov u1 rfl (o_len' r_behind rfl sl23 rfl (?_))))
  have s2 := s0.rot1
  refine v_app1 sl23 rfl rfl rfl s2 oy0_ ⟨rfl, (inr_len (rep_len r_behind)).1, (inr_len (rep_len r_behind)).2⟩ rfl rfl (h (rep_len r_behind)) rfl (fun u1 v1 A1 I1 w1 e1 s1 o1 l1 h1 => ?_)
  have s4 := s1.rot1
  refine o_storeX (cs' := #[v1]) ty23 s4 rfl rfl o1.one rfl rfl (fun w3 e3 s3 => ?_)
  refine wl_nil (?_)
  exact ret_end_none Try.func22 rfl (e1.trans e3) ⟨([(by0_, .cells #[v1] 23 (0, 0))] ++ (A1)) ++ ([]), ((y0_ ++ [(behind.length : Int)]), ()), (by simpa only [List.append_assoc, List.nil_append, List.append_nil] using s3), ⟨_, _, _, rfl, rfl, ⟨_, _, rfl, (o1.mono e3)⟩, ⟨rfl, rfl⟩⟩, h1⟩

def sched_Live  (parts : List (List Int)) (out : List Int) (l : List Sched_Step) (Q : List Int → Prop) : Prop := Wp Try.prog 8 (sD (sD (sD sN))) (parts, out, l, ()) rO Q
def sched_Live_v  (parts : List (List Int)) (out : List Int) (l : List Sched_Step) (Q : List Int → Prop) : Prop := sched_live parts l (envB 22 #[] #[] (boxO 23)) (fun (a : (List Int) × (List Int) × (List Int) × Unit) Q => sched_Live_1 a.1 a.2.1 a.2.2.1 Q) ([] : List Int) (fun x2 => Q x2.1)
theorem sched_Live_w  {parts : List (List Int)} {out : List Int} {l : List Sched_Step} {Q : List Int → Prop} (h : sched_Live_v parts out l Q) : sched_Live parts out l Q := by
  rintro I w T A vs ⟨u0, _, rfl, (r_parts : rep I w u0 parts), u1, _, rfl, (r_out : rep I w u1 out), u2, _, rfl, (r_l : rep I w u2 l), rfl, rfl⟩ s0
  refine ret_of_wt Try.func8 rfl Try.ntmps8 rfl ?_
  refine wt_seq (wt_region (o_assign (wl_nil (wt_seq (wt_region (o_allocO (z := .slice none 0 0) (cs := #[.slice none 0 0]) s0 zr23 rfl (fun bk7 w1 e1 s1 => ?_)))))))
  refine wl_nil (wt_seq (wt_region (o_mov u0 rfl (o_mov u2 rfl (o_makeFunc (vs := []) (us := [.pointer (some ⟨bk7, 0, none⟩)]) rfl rfl (o_ret cc21 (Wp.cA h ⟨_, _, rfl, (e1.rep r_parts), _, _, rfl, (e1.rep r_l), _, _, [(bk7, .cells #[.slice none 0 0] 23 (0, 0))], _, rfl, rfl, (Fc.box (F := fun (a : (List Int) × (List Int) × (List Int) × Unit) Q => sched_Live_1 a.1 a.2.1 a.2.2.1 Q) cc22 (Fc.nil (fun a Q h => h))), (envB.mono (fun e h => boxO.mono e h)), ⟨_, rfl, ⟨_, [], rfl, OwnSl.nil⟩⟩, rfl, rfl⟩ (by simpa only [List.append_assoc, List.nil_append, List.append_nil] using s1)) rfl ?_))))))
  rintro v2 I2 w2 e2 ⟨_, x2, s2, ⟨v2_, A2_1, A2_2, hv2, rfl, ⟨b2, hb2, ob2⟩, ⟨rfl, rfl⟩⟩, h2⟩
  obtain rfl := Option.some.inj hv2
  obtain rfl : bk7 = b2 := by simpa using hb2
  obtain ⟨v2_e, A2_e, rfl, o2_e⟩ := ob2
  simp only [List.append_assoc, List.nil_append] at s2
  refine wl_nil (wt_seq (wt_region (o_loadO (v := v2_e) ty23 s2 rfl rfl (o_asg v2_e rfl (wl_nil (?_))))))
  exact ret_one Try.func8 rfl rfl (e1.trans e2) ⟨A2_e, _, s2.drop, o2_e, h2⟩

def law42_SchedEarly  (parts : List (List Int)) (out : List Int) (Q : Bool → Prop) : Prop := Wp Try.prog 3 (sD (sD sN)) (parts, out, ()) rD Q
def law42_SchedEarly_v  (parts : List (List Int)) (out : List Int) (Q : Bool → Prop) : Prop := law42_few parts out ([] : List Ref42_Step) (fun (x1 : Bool) => (((!x1) = true → law42_lives  (fun (x3 : Bool) => Q x3)) ∧ ((!x1) = false → sched_Plan parts out (fun (x4 : List Sched_Step) => sched_Right parts out x4 (fun (x6 : Bool) => (((!x6) = true → Q false) ∧ ((!x6) = false → (x4.length ≤ 9223372036854775807 → (parts.length ≤ 9223372036854775807 → ((¬((x4.length : Int) = (parts.length : Int)) → Q false) ∧ (((x4.length : Int) = (parts.length : Int)) → (x4.length ≤ 9223372036854775807 → Rng1 x4.length (fun j15 q15 V15 (all17 : List (Int × Bool)) => (∃ q18 : j15 < x4.length, ((((x4[j15]).Part < 0) → Q false) ∧ (¬((x4[j15]).Part < 0) → (parts.length ≤ 9223372036854775807 → ((((parts.length : Int) ≤ (x4[j15]).Part) → Q false) ∧ (¬((parts.length : Int) ≤ (x4[j15]).Part) → ((0 : Int) ≤ ((x4[j15]).Part)) ∧ ((∃ q27 : (Int.toNat ((x4[j15]).Part)) < parts.length, ((parts[(Int.toNat ((x4[j15]).Part))]).length ≤ 9223372036854775807 → Rng2 ((parts[(Int.toNat ((x4[j15]).Part))]).length) (fun j29 q29 V29 (all30 : List (Int × Bool)) (has32 : List (Int × Bool)) => (∃ q33 : j29 < (parts[(Int.toNat ((x4[j15]).Part))]).length, (InR ((parts[(Int.toNat ((x4[j15]).Part))])[j29]) → V29 (mset all30 ((parts[(Int.toNat ((x4[j15]).Part))])[j29]) true) (mset has32 ((parts[(Int.toNat ((x4[j15]).Part))])[j29]) true)))) (fun (all30 : List (Int × Bool)) (has32 : List (Int × Bool)) => (((x4[j15]).Out).length ≤ 9223372036854775807 → Rng0 (((x4[j15]).Out).length) (fun j40 q40 V40 => (∃ q42 : j40 < ((x4[j15]).Out).length, (InR (((x4[j15]).Out)[j40]) → (((0 < (j15 : Int)) → (((!((mget has32 (((x4[j15]).Out)[j40])).getD false)) = true → Q false) ∧ ((!((mget has32 (((x4[j15]).Out)[j40])).getD false)) = false → (((0 < (j40 : Int)) → (InR ((j40 : Int) - 1)) ∧ (((0 : Int) ≤ ((j40 : Int) - 1)) ∧ ((∃ q52 : (Int.toNat ((j40 : Int) - 1)) < ((x4[j15]).Out).length, (InR (((x4[j15]).Out)[(Int.toNat ((j40 : Int) - 1))]) → ((((((x4[j15]).Out)[j40]) ≤ (((x4[j15]).Out)[(Int.toNat ((j40 : Int) - 1))])) → Q false) ∧ (¬((((x4[j15]).Out)[j40]) ≤ (((x4[j15]).Out)[(Int.toNat ((j40 : Int) - 1))])) → V40))))))) ∧ (¬(0 < (j40 : Int)) → V40))))) ∧ (¬(0 < (j15 : Int)) → (((0 < (j40 : Int)) → (InR ((j40 : Int) - 1)) ∧ (((0 : Int) ≤ ((j40 : Int) - 1)) ∧ ((∃ q59 : (Int.toNat ((j40 : Int) - 1)) < ((x4[j15]).Out).length, (InR (((x4[j15]).Out)[(Int.toNat ((j40 : Int) - 1))]) → ((((((x4[j15]).Out)[j40]) ≤ (((x4[j15]).Out)[(Int.toNat ((j40 : Int) - 1))])) → Q false) ∧ (¬((((x4[j15]).Out)[j40]) ≤ (((x4[j15]).Out)[(Int.toNat ((j40 : Int) - 1))])) → V40))))))) ∧ (¬(0 < (j40 : Int)) → V40))))))) (V15 all30))) all17 ([] : List (Int × Bool)))))))))))) (fun (all17 : List (Int × Bool)) => (out.length ≤ 9223372036854775807 → Rng1 out.length (fun j63 q63 V63 (all65 : List (Int × Bool)) => (∃ q66 : j63 < out.length, (InR (out[j63]) → V63 (mdel all65 (out[j63]))))) (fun (all65 : List (Int × Bool)) => sched_Live parts out x4 (fun (x68 : List Int) => sched_Widest parts out x4 (fun (x69 : Int) => InR x69 → (x68.length ≤ 9223372036854775807 → (x4.length ≤ 9223372036854775807 → ((¬((x68.length : Int) = (x4.length : Int)) → Q false) ∧ (((x68.length : Int) = (x4.length : Int)) → (x68.length ≤ 9223372036854775807 → Rng0 x68.length (fun j74 q74 V74 => (∃ q76 : j74 < x68.length, (InR (x68[j74]) → (((x69 < (x68[j74])) → Q false) ∧ (¬(x69 < (x68[j74])) → V74))))) ((x4.length ≤ 9223372036854775807 → ((((x4.length : Int) = 0) → law42_lives  (fun (x82 : Bool) => Q x82)) ∧ (¬((x4.length : Int) = 0) → (x68.length ≤ 9223372036854775807 → (InR ((x68.length : Int) - 1)) ∧ (((0 : Int) ≤ ((x68.length : Int) - 1)) ∧ ((∃ q84 : (Int.toNat ((x68.length : Int) - 1)) < x68.length, (InR (x68[(Int.toNat ((x68.length : Int) - 1))]) → (InR (all65.length : Int)) ∧ (((((x68[(Int.toNat ((x68.length : Int) - 1))]) = (all65.length : Int)) → law42_lives  (fun (x89 : Bool) => Q x89)) ∧ (¬((x68[(Int.toNat ((x68.length : Int) - 1))]) = (all65.length : Int)) → Q false)))))))))))))))))))) all17)) ([] : List (Int × Bool))))))))))))))
set_option maxHeartbeats 4000000 in
theorem law42_SchedEarly_w  {parts : List (List Int)} {out : List Int} {Q : Bool → Prop} (h : law42_SchedEarly_v parts out Q) : law42_SchedEarly parts out Q := by
  rintro I w T A vs ⟨u0, _, rfl, (r_parts : rep I w u0 parts), u1, _, rfl, (r_out : rep I w u1 out), rfl, rfl⟩ s0
  refine ret_of_wt Try.func3 rfl Try.ntmps3 rfl ?_
  refine wt_seq (wt_region (o_assign (wl_nil (wt_seq (wt_seq (wt_region (o_mov u0 rfl (o_mov u1 rfl (o_ret cc4 (Wp.c0 h ⟨_, _, rfl, r_parts, _, _, rfl, r_out, _, _, rfl, (rep_nil (by decide)), rfl, rfl⟩ s0) rfl ?_)))))))))
  rintro v1 I1 w1 e1 ⟨A1, x1, s1, ⟨rfl, r1⟩, h1⟩
  replace s1 := s1.of_nil
  obtain rfl : _ = _ := r1
  refine o_not rfl (wl_nil (wt_cond rfl (fun c2 => ?_) (fun c2 => ?_)))
  · refine wt_seq (wt_region (o_ret cc5 (Wp.c0 (h1.1 c2) ⟨rfl, rfl⟩ s1) rfl ?_))
    rintro v3 I3 w3 e3 ⟨A3, x3, s3, ⟨rfl, r3⟩, h3⟩
    replace s3 := s3.of_nil
    obtain rfl : _ = _ := r3
    refine o_asg (.bool x3) rfl (wl_nil (?_))
    exact ret_one Try.func3 rfl rfl (e1.trans e3) ⟨[], _, s3, ⟨rfl, rfl⟩, h3⟩
  · refine wt_skip (wt_seq (wt_region (o_mov u0 rfl (o_mov u1 rfl (o_ret cc6 (Wp.c0 (h1.2 c2) ⟨_, _, rfl, (e1.rep r_parts), _, _, rfl, (e1.rep r_out), rfl, rfl⟩ s1) rfl ?_)))))
    rintro v4 I4 w4 e4 ⟨A4, x4, s4, o4, h4⟩
    refine o_asg v4 rfl (wl_nil (wt_seq (wt_seq (wt_region (o_mov u0 rfl (o_mov u1 rfl (o_mov v4 rfl (?_))))))))
    obtain ⟨e5, s5, r5⟩ := OwnSl.lend o4 s4
    refine o_ret cc7 (Wp.c0 h4 ⟨_, _, rfl, (e5.rep (e4.rep (e1.rep r_parts))), _, _, rfl, (e5.rep (e4.rep (e1.rep r_out))), _, _, rfl, r5, rfl, rfl⟩ s5) rfl ?_
    rintro v6 I6 w6 e6 ⟨A6, x6, s6, ⟨rfl, r6⟩, h6⟩
    replace s6 := s6.of_nil
    obtain rfl : _ = _ := r6
    obtain ⟨I7, e7, s7⟩ := St.back s4 e6 s6
    refine o_not rfl (o_mov (.bool (!x6)) rfl (wl_caseb (d := 33) rfl rfl (fun c8 => ?_) (fun c8 => ?_)))
    · refine wl_no rfl (wl_no rfl (wl_no rfl (wl_no rfl (wl_no rfl (o_pick1 rfl (wl_nil (wt_true rfl (wt_seq (wt_region (o_assign (wl_nil (?_))))))))))))
      exact ret_one Try.func3 rfl rfl ((e1.trans e4).trans e7) ⟨[], _, s7.drop, ⟨rfl, rfl⟩, (h6.1 c8)⟩
    · refine wl_yes rfl (o_mov v4 rfl (wl_yes rfl (o_lenO (o4.mono e7) rfl sl26 rfl (wl_yes rfl (o_mov u0 rfl (wl_yes rfl (o_len' (e7.rep (e4.rep (e1.rep r_parts))) rfl sl22 rfl (wl_yes rfl (o_nev rfl rfl (o_pickf (.bool (decide (¬((x4.length : Int) = (parts.length : Int))))) rfl rfl (wl_nil (?_))))))))))))
      have h9 := (((h6.2 c8) o4.bd) (rep_len r_parts))
      refine wt_condn rfl (fun c10 => ?_) (fun c10 => ?_)
      · refine wt_seq (wt_region (o_assign (wl_nil (?_))))
        exact ret_one Try.func3 rfl rfl ((e1.trans e4).trans e7) ⟨[], _, s7.drop, ⟨rfl, rfl⟩, (h9.1 c10)⟩
      · refine wt_skip (wt_seq (wt_region (o_makeMap Int Bool s7 (fun v11 A11 w11 e11 s11 o11 => ?_))))
        refine o_asg v11 rfl (wl_nil (wt_seq (wt_seq (wt_region (o_mov v4 rfl (o_lenO ((o4.mono e7).mono e11) rfl sl26 rfl (o_move (wl_nil (wt_block (?_))))))))))
        have h12 := ((h9.2 c10) o4.bd)
        have s14 := s11.rot1
        obtain ⟨I13, e13, s13, r13⟩ := OwnSl.freeze ((o4.mono e7).mono e11) s14
        obtain ⟨V15, z15, b15, k15⟩ := h12
        refine wt_loop (fun n f w15 => ∃ (g : Fr) (I15 : Reg) (j15 : Nat) (A17 : Own) (v17 : Value) (all17 : List (Int × Bool)), f = ov [(0, u0), (1, u1), (5, v4), (6, v17), (41, v4), (42, .int .i64 (x4.length : Int)), (43, .int .i64 (j15 : Int))] g ∧ n = x4.length - j15 ∧ j15 ≤ x4.length ∧ Ext I13 w11 I15 w15 ∧ St I15 w15 (A17 ++ T) ∧ OwnMap I15 w15 A17 v17 all17 ∧ V15 j15 all17) _ ⟨_, _, 0, A11, v11, ([] : List (Int × Bool)), ov_self _ _ ⟨rfl, rfl, rfl, rfl, rfl, rfl, rfl, trivial⟩, rfl, Nat.zero_le _, Ext.refl _ _, s13, (o11.mono e13), z15⟩ ?_
        rintro n f w15 ⟨g, I15, j15, A17, v17, all17, rfl, rfl, l15, e15, s15, o17, h15⟩ i15
        refine wt_seq (wt_region (o_lssv rfl rfl (wl_nil (wt_seq (wt_condp rfl (fun q15 => ?_) (fun q15 => ?_))))))
        · have y15 := b15 _ (rng_lt q15) _ h15
          have q15n := rng_lt q15
          refine wt_skip (wt_seq (wt_block (wt_seq (wt_region (o_mov (.int .i64 (j15 : Int)) rfl (v_il (j := j15) sl26 (e15.rep r13) rfl rfl rfl rfl ty31 y15 (fun q18 a18 v18 r18 h18 => ?_)))))))
          obtain ⟨c18_0, c18_1, rfl, rr18_0, r18_1⟩ := open_Sched_Step r18
          obtain ⟨rfl, g18_0⟩ := rint_in rr18_0
          refine o_allocO (z := .agg #[.int .i64 0, .slice none 0 0]) (cs := #[.int .i64 0, .slice none 0 0]) s15 zr31 rfl (fun bk8 w19 e19 s19 => ?_)
          refine o_asg (.int .i64 (j15 : Int)) rfl (o_storeB (vs := [.int .i64 ((x4[j15]).Part), c18_1]) ty31 s19 rfl rfl rfl rfl ⟨rfl, (one1 rfl (e19.rep r18_1)), trivial⟩ (fun w20 e20 s20 => ?_))
          refine wl_nil (wt_seq (wt_seq (wt_region (o_fieldO fl31_0 rfl (o_loadO (v := .int .i64 ((x4[j15]).Part)) ty3 s20 rfl rfl (o_lssv rfl rfl (o_mov (.bool (decide ((x4[j15]).Part < 0))) rfl (wl_casep (d := 51) rfl rfl (fun c21 => ?_) (fun c21 => ?_)))))))))
          · refine wl_no rfl (wl_no rfl (wl_no rfl (wl_no rfl (wl_no rfl (o_pick1 rfl (wl_nil (wt_true rfl (wt_seq (wt_region (o_assign (wl_nil (?_))))))))))))
            exact ret_one Try.func3 rfl rfl (((((((e1.trans e4).trans e7).trans e11).trans e13).trans e15).trans e19).trans e20) ⟨[], _, s20.drop.drop, ⟨rfl, rfl⟩, (h18.1 c21)⟩
          · refine wl_yes rfl (o_fieldO fl31_0 rfl (wl_yes rfl (o_loadO (v := .int .i64 ((x4[j15]).Part)) ty3 s20 rfl rfl (wl_yes rfl (o_mov u0 rfl (wl_yes rfl (o_len' (e20.rep (e19.rep (e15.rep (e13.rep (e11.rep (e7.rep (e4.rep (e1.rep r_parts)))))))) rfl sl22 rfl (wl_yes rfl (o_geqv rfl rfl (o_pickf (.bool (decide ((parts.length : Int) ≤ (x4[j15]).Part))) rfl rfl (wl_nil (?_))))))))))))
            have h22 := ((h18.2 c21) (rep_len r_parts))
            refine wt_condp rfl (fun c23 => ?_) (fun c23 => ?_)
            · refine wt_seq (wt_region (o_assign (wl_nil (?_))))
              exact ret_one Try.func3 rfl rfl (((((((e1.trans e4).trans e7).trans e11).trans e13).trans e15).trans e19).trans e20) ⟨[], _, s20.drop.drop, ⟨rfl, rfl⟩, (h22.1 c23)⟩
            · refine wt_skip (wt_seq (wt_region (o_makeMap Int Bool s20 (fun v24 A24 w24 e24 s24 o24 => ?_))))
              refine o_asg v24 rfl (wl_nil (wt_seq (wt_seq (wt_region (o_mov u0 rfl (o_fieldO fl31_0 rfl (?_)))))))
              have s25 := s24.rot1
              refine o_loadO (v := .int .i64 ((x4[j15]).Part)) ty3 s25 rfl rfl (?_)
              have h26 := (h22.2 c23)
              refine v_il (j := (Int.toNat ((x4[j15]).Part))) sl22 (e24.rep (e20.rep (e19.rep (e15.rep (e13.rep (e11.rep (e7.rep (e4.rep (e1.rep r_parts))))))))) rfl rfl (Int.toNat_of_nonneg h26.1).symm rfl ty23 h26.2 (fun q27 a27 v27 r27 h27 => ?_)
              refine o_len' r27 rfl sl23 rfl (o_move (wl_nil (wt_block (?_))))
              have h28 := (h27 (rep_len r27))
              obtain ⟨V29, z29, b29, k29⟩ := h28
              refine wt_loop (fun n f w29 => ∃ (g : Fr) (I29 : Reg) (j29 : Nat) (A30 : Own) (v30 : Value) (all30 : List (Int × Bool)) (A32 : Own) (v32 : Value) (has32 : List (Int × Bool)), f = ov [(0, u0), (1, u1), (5, v4), (6, v30), (7, .int .i64 (j15 : Int)), (8, .pointer (some ⟨bk8, 0, none⟩)), (9, v32), (41, v4), (42, .int .i64 (x4.length : Int)), (43, .int .i64 (j15 : Int)), (63, v27), (64, .int .i64 ((parts[(Int.toNat ((x4[j15]).Part))]).length : Int)), (65, .int .i64 (j29 : Int))] g ∧ n = (parts[(Int.toNat ((x4[j15]).Part))]).length - j29 ∧ j29 ≤ (parts[(Int.toNat ((x4[j15]).Part))]).length ∧ Ext I15 w24 I29 w29 ∧ St I29 w29 ([(bk8, .cells #[.int .i64 ((x4[j15]).Part), c18_1] 31 (0, 0))] ++ (A32 ++ (A30 ++ T))) ∧ OwnMap I29 w29 A30 v30 all30 ∧ OwnMap I29 w29 A32 v32 has32 ∧ V29 j29 all30 has32) _ ⟨_, _, 0, A17, v17, all17, A24, v24, ([] : List (Int × Bool)), ov_self _ _ ⟨rfl, rfl, rfl, rfl, rfl, rfl, rfl, rfl, rfl, rfl, rfl, rfl, rfl, trivial⟩, rfl, Nat.zero_le _, Ext.refl _ _, s25, (((o17.mono e19).mono e20).mono e24), o24, z29⟩ ?_
              rintro n f w29 ⟨g, I29, j29, A30, v30, all30, A32, v32, has32, rfl, rfl, l29, e29, s29, o30, o32, h29⟩ i29
              refine wt_seq (wt_region (o_lssv rfl rfl (wl_nil (wt_seq (wt_condp rfl (fun q29 => ?_) (fun q29 => ?_))))))
              · have y29 := b29 _ (rng_lt q29) _ _ h29
                have q29n := rng_lt q29
                refine wt_skip (wt_seq (wt_block (wt_seq (wt_region (v_il (j := j29) sl23 (e29.rep r27) rfl rfl rfl rfl ty3 y29 (fun q33 a33 v33 r33 h33 => ?_))))))
                obtain ⟨rfl, g33⟩ := rint_in r33
                refine o_asg (.int .i64 ((parts[(Int.toNat ((x4[j15]).Part))])[j29])) rfl (wl_nil (wt_region (o_mov v32 rfl (o_mov (.int .i64 ((parts[(Int.toNat ((x4[j15]).Part))])[j29])) rfl (o_mov v30 rfl (o_mov (.int .i64 ((parts[(Int.toNat ((x4[j15]).Part))])[j29])) rfl (?_)))))))
                have s35 := s29.rot1
                refine o_mapSet mt29 o32 s35 rfl rfl rfl ⟨rfl, g33.1, g33.2⟩ rfl (fun A34 w34 e34 s34 o34 => ?_)
                have s37 := s34.rot2
                refine o_mapSet mt29 (o30.mono e34) s37 rfl rfl rfl ⟨rfl, g33.1, g33.2⟩ rfl (fun A36 w36 e36 s36 o36 => ?_)
                refine wl_nil (wt_inBlock (wt_region (o_addi rfl rfl (inr_succ0 q29n (rep_len r27)) (o_mov (.int .i64 ((j29 : Int) + 1)) rfl (wl_nil (?_))))))
                have s38 := s36.rot1.rot2
                exact i29.out _ _ _ (by omega) ⟨_, _, j29 + 1, A36, v30, (mset all30 ((parts[(Int.toNat ((x4[j15]).Part))])[j29]) true), A34, v32, (mset has32 ((parts[(Int.toNat ((x4[j15]).Part))])[j29]) true), ov_self _ _ ⟨rfl, rfl, rfl, rfl, rfl, rfl, rfl, rfl, rfl, rfl, rfl, rfl, rfl, trivial⟩, rfl, q29n, ((e29.trans e34).trans e36), s38, o36, (o34.mono e36), (h33 g33)⟩
              · have y29 := k29 _ _ (rng_end (I := fun j => V29 j all30 has32) l29 q29 h29)
                refine wt_exit rfl (wt_seq (wt_region (o_fieldO fl31_1 rfl (o_loadO (v := c18_1) ty23 s29 rfl rfl (o_len' (e29.rep (e24.rep (e20.rep (e19.rep r18_1)))) rfl sl23 rfl (o_move (wl_nil (wt_block (?_)))))))))
                have h39 := (y29 (rep_len r18_1))
                obtain ⟨V40, z40, b40, k40⟩ := h39
                refine wt_loop (fun n f w40 => ∃ (g : Fr) (I40 : Reg) (j40 : Nat) , f = ov [(0, u0), (1, u1), (5, v4), (6, v30), (7, .int .i64 (j15 : Int)), (8, .pointer (some ⟨bk8, 0, none⟩)), (9, v32), (41, v4), (42, .int .i64 (x4.length : Int)), (43, .int .i64 (j15 : Int)), (75, c18_1), (76, .int .i64 (((x4[j15]).Out).length : Int)), (77, .int .i64 (j40 : Int))] g ∧ n = ((x4[j15]).Out).length - j40 ∧ j40 ≤ ((x4[j15]).Out).length ∧ Ext I29 w29 I40 w40 ∧ St I40 w40 ([(bk8, .cells #[.int .i64 ((x4[j15]).Part), c18_1] 31 (0, 0))] ++ (A32 ++ (A30 ++ T))) ∧ V40 j40 ) _ ⟨_, _, 0, ov_self _ _ ⟨rfl, rfl, rfl, rfl, rfl, rfl, rfl, rfl, rfl, rfl, rfl, rfl, rfl, trivial⟩, rfl, Nat.zero_le _, Ext.refl _ _, s29, z40⟩ ?_
                rintro n f w40 ⟨g, I40, j40, rfl, rfl, l40, e40, s40, h40⟩ i40
                refine wt_seq (wt_region (o_lssv rfl rfl (wl_nil (wt_seq (wt_condp rfl (fun q40 => ?_) (fun q40 => ?_))))))
                · have y40 := b40 _ (rng_lt q40) h40
                  have q40n := rng_lt q40
                  refine wt_skip (wt_seq (wt_block (wt_seq (wt_region (o_mov (.int .i64 (j40 : Int)) rfl (v_il (j := j40) sl23 (e40.rep (e29.rep (e24.rep (e20.rep (e19.rep r18_1))))) rfl rfl rfl rfl ty3 y40 (fun q42 a42 v42 r42 h42 => ?_)))))))
                  obtain ⟨rfl, g42⟩ := rint_in r42
                  refine o_asg (.int .i64 (j40 : Int)) rfl (o_asg (.int .i64 (((x4[j15]).Out)[j40])) rfl (wl_nil (wt_seq (wt_region (o_mov (.int .i64 (j15 : Int)) rfl (o_gtrv rfl rfl (o_mov (.bool (decide (0 < (j15 : Int)))) rfl (wl_casep (d := 84) rfl rfl (fun c43 => ?_) (fun c43 => ?_)))))))))
                  · refine wl_yes rfl (o_mov v32 rfl (wl_yes rfl (o_mov (.int .i64 (((x4[j15]).Out)[j40])) rfl (wl_yes rfl (?_)))))
                    have s45 := s40.rot1
                    refine o_lookup (zv := .bool false) (zd := (false : Bool)) mt29 (o32.mono e40) s45 rfl rfl ⟨rfl, g42.1, g42.2⟩ (zv4 _) rfl (fun v44 r44 => ?_)
                    obtain rfl : _ = _ := r44
                    refine wl_yes rfl (o_not rfl (o_pickt (.bool (!((mget has32 (((x4[j15]).Out)[j40])).getD false))) rfl rfl (o_mov (.bool (!((mget has32 (((x4[j15]).Out)[j40])).getD false))) rfl (?_))))
                    have h46 := ((h42 g42).1 c43)
                    refine wl_caseb (d := 90) rfl rfl (fun c47 => ?_) (fun c47 => ?_)
                    · refine wl_no rfl (wl_no rfl (wl_no rfl (wl_no rfl (wl_no rfl (wl_no rfl (wl_no rfl (wl_no rfl (wl_no rfl (wl_no rfl (wl_no rfl (wl_no rfl (o_pick1 rfl (wl_nil (wt_true rfl (wt_seq (wt_region (o_assign (wl_nil (?_)))))))))))))))))))
                      exact ret_one Try.func3 rfl rfl ((((((((((e1.trans e4).trans e7).trans e11).trans e13).trans e15).trans e19).trans e20).trans e24).trans e29).trans e40) ⟨[], _, s45.drop.drop.drop, ⟨rfl, rfl⟩, (h46.1 c47)⟩
                    · refine wl_yes rfl (o_mov (.int .i64 (j40 : Int)) rfl (wl_yes rfl (o_gtrv rfl rfl (wl_yes rfl (o_mov (.bool (decide (0 < (j40 : Int)))) rfl (?_))))))
                      have h48 := (h46.2 c47)
                      refine wl_casep (d := 93) rfl rfl (fun c49 => ?_) (fun c49 => ?_)
                      · refine wl_yes rfl (o_fieldO fl31_1 rfl (wl_yes rfl (?_)))
                        have s50 := s45.rot1
                        refine o_loadO (v := c18_1) ty23 s50 rfl rfl (wl_yes rfl (o_mov (.int .i64 (j40 : Int)) rfl (wl_yes rfl (?_))))
                        have h51 := (h48.1 c49)
                        refine o_subi rfl rfl h51.1 (wl_yes rfl (v_ix (j := (Int.toNat ((j40 : Int) - 1))) sl23 (e40.rep (e29.rep (e24.rep (e20.rep (e19.rep r18_1))))) rfl rfl (Int.toNat_of_nonneg h51.2.1).symm h51.2.2 (fun q52 a52 v52 p52 b52 r52 h52 => ?_)))
                        refine wl_yes rfl (o_load ty3 p52 r52 rfl (?_))
                        have r53 := r52
                        obtain ⟨rfl, g53⟩ := rint_in r53
                        refine wl_yes rfl (o_mov (.int .i64 (((x4[j15]).Out)[j40])) rfl (wl_yes rfl (o_geqv rfl rfl (wl_yes rfl (o_pickt (.bool (decide ((((x4[j15]).Out)[j40]) ≤ (((x4[j15]).Out)[(Int.toNat ((j40 : Int) - 1))])))) rfl rfl (o_pickf (.bool (decide ((((x4[j15]).Out)[j40]) ≤ (((x4[j15]).Out)[(Int.toNat ((j40 : Int) - 1))])))) rfl rfl (wl_nil (wt_condp rfl (fun c54 => ?_) (fun c54 => ?_)))))))))
                        · refine wt_seq (wt_region (o_assign (wl_nil (?_))))
                          exact ret_one Try.func3 rfl rfl ((((((((((e1.trans e4).trans e7).trans e11).trans e13).trans e15).trans e19).trans e20).trans e24).trans e29).trans e40) ⟨[], _, s50.drop.drop.drop, ⟨rfl, rfl⟩, ((h52 g53).1 c54)⟩
                        · refine wt_skip (wt_inBlock (wt_region (o_addi rfl rfl (inr_succ0 q40n (rep_len r18_1)) (o_mov (.int .i64 ((j40 : Int) + 1)) rfl (wl_nil (?_))))))
                          exact i40.out _ _ _ (by omega) ⟨_, _, j40 + 1, ov_self _ _ ⟨rfl, rfl, rfl, rfl, rfl, rfl, rfl, rfl, rfl, rfl, rfl, rfl, rfl, trivial⟩, rfl, q40n, e40, s50, ((h52 g53).2 c54)⟩
                      · refine wl_no rfl (wl_no rfl (wl_no rfl (wl_no rfl (wl_no rfl (wl_no rfl (wl_no rfl (wl_no rfl (wl_yes rfl (o_pick0 rfl (o_pickf (.bool false) rfl rfl (wl_nil (wt_false rfl (wt_skip (wt_inBlock (wt_region (o_addi rfl rfl (inr_succ0 q40n (rep_len r18_1)) (o_mov (.int .i64 ((j40 : Int) + 1)) rfl (wl_nil (?_)))))))))))))))))))
                        have s55 := s45.rot1
                        exact i40.out _ _ _ (by omega) ⟨_, _, j40 + 1, ov_self _ _ ⟨rfl, rfl, rfl, rfl, rfl, rfl, rfl, rfl, rfl, rfl, rfl, rfl, rfl, trivial⟩, rfl, q40n, e40, s55, (h48.2 c49)⟩
                  · refine wl_no rfl (wl_no rfl (wl_no rfl (wl_no rfl (o_pick0 rfl (o_mov (.bool false) rfl (wl_yes rfl (o_mov (.int .i64 (j40 : Int)) rfl (wl_yes rfl (o_gtrv rfl rfl (wl_yes rfl (o_mov (.bool (decide (0 < (j40 : Int)))) rfl (?_))))))))))))
                    have h56 := ((h42 g42).2 c43)
                    refine wl_casep (d := 93) rfl rfl (fun c57 => ?_) (fun c57 => ?_)
                    · refine wl_yes rfl (o_fieldO fl31_1 rfl (wl_yes rfl (o_loadO (v := c18_1) ty23 s40 rfl rfl (wl_yes rfl (o_mov (.int .i64 (j40 : Int)) rfl (wl_yes rfl (?_)))))))
                      have h58 := (h56.1 c57)
                      refine o_subi rfl rfl h58.1 (wl_yes rfl (v_ix (j := (Int.toNat ((j40 : Int) - 1))) sl23 (e40.rep (e29.rep (e24.rep (e20.rep (e19.rep r18_1))))) rfl rfl (Int.toNat_of_nonneg h58.2.1).symm h58.2.2 (fun q59 a59 v59 p59 b59 r59 h59 => ?_)))
                      refine wl_yes rfl (o_load ty3 p59 r59 rfl (?_))
                      have r60 := r59
                      obtain ⟨rfl, g60⟩ := rint_in r60
                      refine wl_yes rfl (o_mov (.int .i64 (((x4[j15]).Out)[j40])) rfl (wl_yes rfl (o_geqv rfl rfl (wl_yes rfl (o_pickt (.bool (decide ((((x4[j15]).Out)[j40]) ≤ (((x4[j15]).Out)[(Int.toNat ((j40 : Int) - 1))])))) rfl rfl (o_pickf (.bool (decide ((((x4[j15]).Out)[j40]) ≤ (((x4[j15]).Out)[(Int.toNat ((j40 : Int) - 1))])))) rfl rfl (wl_nil (wt_condp rfl (fun c61 => ?_) (fun c61 => ?_)))))))))
                      · refine wt_seq (wt_region (o_assign (wl_nil (?_))))
                        exact ret_one Try.func3 rfl rfl ((((((((((e1.trans e4).trans e7).trans e11).trans e13).trans e15).trans e19).trans e20).trans e24).trans e29).trans e40) ⟨[], _, s40.drop.drop.drop, ⟨rfl, rfl⟩, ((h59 g60).1 c61)⟩
                      · refine wt_skip (wt_inBlock (wt_region (o_addi rfl rfl (inr_succ0 q40n (rep_len r18_1)) (o_mov (.int .i64 ((j40 : Int) + 1)) rfl (wl_nil (?_))))))
                        exact i40.out _ _ _ (by omega) ⟨_, _, j40 + 1, ov_self _ _ ⟨rfl, rfl, rfl, rfl, rfl, rfl, rfl, rfl, rfl, rfl, rfl, rfl, rfl, trivial⟩, rfl, q40n, e40, s40, ((h59 g60).2 c61)⟩
                    · refine wl_no rfl (wl_no rfl (wl_no rfl (wl_no rfl (wl_no rfl (wl_no rfl (wl_no rfl (wl_no rfl (wl_yes rfl (o_pick0 rfl (o_pickf (.bool false) rfl rfl (wl_nil (wt_false rfl (wt_skip (wt_inBlock (wt_region (o_addi rfl rfl (inr_succ0 q40n (rep_len r18_1)) (o_mov (.int .i64 ((j40 : Int) + 1)) rfl (wl_nil (?_)))))))))))))))))))
                      exact i40.out _ _ _ (by omega) ⟨_, _, j40 + 1, ov_self _ _ ⟨rfl, rfl, rfl, rfl, rfl, rfl, rfl, rfl, rfl, rfl, rfl, rfl, rfl, trivial⟩, rfl, q40n, e40, s40, (h56.2 c57)⟩
                · have y40 := k40 (rng_end (I := fun j => V40 j ) l40 q40 h40)
                  refine wt_exit rfl (wt_inBlock (wt_region (o_addi rfl rfl (inr_succ0 q15n o4.bd) (o_mov (.int .i64 ((j15 : Int) + 1)) rfl (wl_nil (?_))))))
                  exact i15.out _ _ _ (by omega) ⟨_, _, j15 + 1, A30, v30, all30, ov_self _ _ ⟨rfl, rfl, rfl, rfl, rfl, rfl, rfl, trivial⟩, rfl, q15n, (((((e15.trans e19).trans e20).trans e24).trans e29).trans e40), s40.drop.drop, (o30.mono e40), y40⟩
        · have y15 := k15 _ (rng_end (I := fun j => V15 j all17) l15 q15 h15)
          refine wt_exit rfl (wt_seq (wt_seq (wt_region (o_mov u1 rfl (o_len' (e15.rep (e13.rep (e11.rep (e7.rep (e4.rep (e1.rep r_out)))))) rfl sl23 rfl (o_move (wl_nil (wt_block (?_)))))))))
          have h62 := (y15 (rep_len r_out))
          obtain ⟨V63, z63, b63, k63⟩ := h62
          refine wt_loop (fun n f w63 => ∃ (g : Fr) (I63 : Reg) (j63 : Nat) (A65 : Own) (v65 : Value) (all65 : List (Int × Bool)), f = ov [(0, u0), (1, u1), (5, v4), (6, v65), (106, u1), (107, .int .i64 (out.length : Int)), (108, .int .i64 (j63 : Int))] g ∧ n = out.length - j63 ∧ j63 ≤ out.length ∧ Ext I15 w15 I63 w63 ∧ St I63 w63 (A65 ++ T) ∧ OwnMap I63 w63 A65 v65 all65 ∧ V63 j63 all65) _ ⟨_, _, 0, A17, v17, all17, ov_self _ _ ⟨rfl, rfl, rfl, rfl, rfl, rfl, rfl, trivial⟩, rfl, Nat.zero_le _, Ext.refl _ _, s15, o17, z63⟩ ?_
          rintro n f w63 ⟨g, I63, j63, A65, v65, all65, rfl, rfl, l63, e63, s63, o65, h63⟩ i63
          refine wt_seq (wt_region (o_lssv rfl rfl (wl_nil (wt_seq (wt_condp rfl (fun q63 => ?_) (fun q63 => ?_))))))
          · have y63 := b63 _ (rng_lt q63) _ h63
            have q63n := rng_lt q63
            refine wt_skip (wt_seq (wt_block (wt_seq (wt_region (v_il (j := j63) sl23 (e63.rep (e15.rep (e13.rep (e11.rep (e7.rep (e4.rep (e1.rep r_out))))))) rfl rfl rfl rfl ty3 y63 (fun q66 a66 v66 r66 h66 => ?_))))))
            obtain ⟨rfl, g66⟩ := rint_in r66
            refine o_asg (.int .i64 (out[j63])) rfl (wl_nil (wt_region (o_mov v65 rfl (o_mov (.int .i64 (out[j63])) rfl (o_mapDel mt29 o65 s63 rfl rfl ⟨rfl, g66.1, g66.2⟩ rfl (fun A67 w67 e67 s67 o67 => ?_))))))
            refine wl_nil (wt_inBlock (wt_region (o_addi rfl rfl (inr_succ0 q63n (rep_len r_out)) (o_mov (.int .i64 ((j63 : Int) + 1)) rfl (wl_nil (?_))))))
            exact i63.out _ _ _ (by omega) ⟨_, _, j63 + 1, A67, v65, (mdel all65 (out[j63])), ov_self _ _ ⟨rfl, rfl, rfl, rfl, rfl, rfl, rfl, trivial⟩, rfl, q63n, (e63.trans e67), s67, o67, (h66 g66)⟩
          · have y63 := k63 _ (rng_end (I := fun j => V63 j all65) l63 q63 h63)
            refine wt_exit rfl (wt_seq (wt_region (o_mov u0 rfl (o_mov u1 rfl (o_mov v4 rfl (o_ret cc8 (Wp.c0 y63 ⟨_, _, rfl, (e63.rep (e15.rep (e13.rep (e11.rep (e7.rep (e4.rep (e1.rep r_parts))))))), _, _, rfl, (e63.rep (e15.rep (e13.rep (e11.rep (e7.rep (e4.rep (e1.rep r_out))))))), _, _, rfl, (e63.rep (e15.rep r13)), rfl, rfl⟩ s63) rfl ?_))))))
            rintro v68 I68 w68 e68 ⟨A68, x68, s68, o68, h68⟩
            refine o_asg v68 rfl (wl_nil (wt_seq (wt_region (o_mov u0 rfl (o_mov u1 rfl (o_mov v4 rfl (o_ret cc9 (Wp.c0 h68 ⟨_, _, rfl, (e68.rep (e63.rep (e15.rep (e13.rep (e11.rep (e7.rep (e4.rep (e1.rep r_parts)))))))), _, _, rfl, (e68.rep (e63.rep (e15.rep (e13.rep (e11.rep (e7.rep (e4.rep (e1.rep r_out)))))))), _, _, rfl, (e68.rep (e63.rep (e15.rep r13))), rfl, rfl⟩ s68) rfl ?_)))))))
            rintro v69 I69 w69 e69 ⟨A69, x69, s69, ⟨rfl, r69⟩, h69⟩
            replace s69 := s69.of_nil
            obtain ⟨rfl, g69⟩ := rint_in r69
            refine o_asg (.int .i64 x69) rfl (wl_nil (wt_seq (wt_seq (wt_region (o_mov v68 rfl (o_lenO (o68.mono e69) rfl sl23 rfl (o_mov v4 rfl (o_len' (e69.rep (e68.rep (e63.rep (e15.rep r13)))) rfl sl26 rfl (o_nev rfl rfl (wl_nil (?_)))))))))))
            have h70 := (((h69 g69) o68.bd) o4.bd)
            refine wt_condn rfl (fun c71 => ?_) (fun c71 => ?_)
            · refine wt_seq (wt_region (o_assign (wl_nil (?_))))
              exact ret_one Try.func3 rfl rfl ((((((((e1.trans e4).trans e7).trans e11).trans e13).trans e15).trans e63).trans e68).trans e69) ⟨[], _, s69.drop.drop, ⟨rfl, rfl⟩, (h70.1 c71)⟩
            · refine wt_skip (wt_seq (wt_seq (wt_region (o_mov v68 rfl (o_lenO (o68.mono e69) rfl sl23 rfl (o_move (wl_nil (wt_block (?_)))))))))
              have h72 := ((h70.2 c71) o68.bd)
              obtain ⟨I73, e73, s73, r73⟩ := OwnSl.freeze (o68.mono e69) s69
              obtain ⟨V74, z74, b74, k74⟩ := h72
              refine wt_loop (fun n f w74 => ∃ (g : Fr) (I74 : Reg) (j74 : Nat) , f = ov [(5, v4), (6, v65), (16, v68), (17, .int .i64 x69), (128, v68), (129, .int .i64 (x68.length : Int)), (130, .int .i64 (j74 : Int))] g ∧ n = x68.length - j74 ∧ j74 ≤ x68.length ∧ Ext I73 w69 I74 w74 ∧ St I74 w74 (A65 ++ T) ∧ V74 j74 ) _ ⟨_, _, 0, ov_self _ _ ⟨rfl, rfl, rfl, rfl, rfl, rfl, rfl, trivial⟩, rfl, Nat.zero_le _, Ext.refl _ _, s73, z74⟩ ?_
              rintro n f w74 ⟨g, I74, j74, rfl, rfl, l74, e74, s74, h74⟩ i74
              refine wt_seq (wt_region (o_lssv rfl rfl (wl_nil (wt_seq (wt_condp rfl (fun q74 => ?_) (fun q74 => ?_))))))
              · have y74 := b74 _ (rng_lt q74) h74
                have q74n := rng_lt q74
                refine wt_skip (wt_seq (wt_block (wt_seq (wt_region (v_il (j := j74) sl23 (e74.rep r73) rfl rfl rfl rfl ty3 y74 (fun q76 a76 v76 r76 h76 => ?_))))))
                obtain ⟨rfl, g76⟩ := rint_in r76
                refine o_asg (.int .i64 (x68[j74])) rfl (wl_nil (wt_seq (wt_region (o_mov (.int .i64 (x68[j74])) rfl (o_mov (.int .i64 x69) rfl (o_gtrv rfl rfl (wl_nil (wt_condp rfl (fun c77 => ?_) (fun c77 => ?_)))))))))
                · refine wt_seq (wt_region (o_assign (wl_nil (?_))))
                  exact ret_one Try.func3 rfl rfl ((((((((((e1.trans e4).trans e7).trans e11).trans e13).trans e15).trans e63).trans e68).trans e69).trans e73).trans e74) ⟨[], _, s74.drop, ⟨rfl, rfl⟩, ((h76 g76).1 c77)⟩
                · refine wt_skip (wt_inBlock (wt_region (o_addi rfl rfl (inr_succ0 q74n o68.bd) (o_mov (.int .i64 ((j74 : Int) + 1)) rfl (wl_nil (?_))))))
                  exact i74.out _ _ _ (by omega) ⟨_, _, j74 + 1, ov_self _ _ ⟨rfl, rfl, rfl, rfl, rfl, rfl, rfl, trivial⟩, rfl, q74n, e74, s74, ((h76 g76).2 c77)⟩
              · have y74 := k74 (rng_end (I := fun j => V74 j ) l74 q74 h74)
                refine wt_exit rfl (wt_seq (wt_drawS s74 mixed rfl (fun w78 e78 s78 => ?_)))
                refine g_op (i := 0) rfl rfl rfl (by kernel_rfl) rfl ⟨_, e78⟩ (fun w' ⟨I', e'⟩ => o_mov v4 rfl ⟨rfl, rfl⟩) (g_op (i := 1) rfl rfl rfl (by kernel_rfl) rfl ⟨_, e78⟩ (fun w' ⟨I', e'⟩ => o_len' (e'.rep (e74.rep (e73.rep (e69.rep (e68.rep (e63.rep (e15.rep r13))))))) rfl sl26 rfl ⟨rfl, rfl⟩) (g_op (i := 2) rfl rfl rfl (by kernel_rfl) rfl ⟨_, e78⟩ (fun w' ⟨I', e'⟩ => o_eqlv rfl rfl ⟨rfl, rfl⟩) (g_op (i := 3) rfl rfl rfl (by kernel_rfl) rfl ⟨_, e78⟩ (fun w' ⟨I', e'⟩ => o_mov (.bool (decide ((x4.length : Int) = 0))) rfl ⟨rfl, rfl⟩) (?_))))
                have h79 := (y74 o4.bd)
                refine wg_casep (d := 141) rfl rfl (fun c80 => ?_) (fun c80 => ?_)
                · refine g_op (i := 4) rfl rfl rfl (by kernel_rfl) rfl ⟨_, e78⟩ (fun w' ⟨I', e'⟩ => wl_no rfl ⟨rfl, rfl⟩) (g_op (i := 5) rfl rfl rfl (by kernel_rfl) rfl ⟨_, e78⟩ (fun w' ⟨I', e'⟩ => wl_no rfl ⟨rfl, rfl⟩) (g_op (i := 6) rfl rfl rfl (by kernel_rfl) rfl ⟨_, e78⟩ (fun w' ⟨I', e'⟩ => wl_no rfl ⟨rfl, rfl⟩) (g_op (i := 7) rfl rfl rfl (by kernel_rfl) rfl ⟨_, e78⟩ (fun w' ⟨I', e'⟩ => wl_no rfl ⟨rfl, rfl⟩) (g_op (i := 8) rfl rfl rfl (by kernel_rfl) rfl ⟨_, e78⟩ (fun w' ⟨I', e'⟩ => wl_no rfl ⟨rfl, rfl⟩) (g_op (i := 9) rfl rfl rfl (by kernel_rfl) rfl ⟨_, e78⟩ (fun w' ⟨I', e'⟩ => wl_no rfl ⟨rfl, rfl⟩) (g_op (i := 10) rfl rfl rfl (by kernel_rfl) rfl ⟨_, e78⟩ (fun w' ⟨I', e'⟩ => wl_no rfl ⟨rfl, rfl⟩) (g_op (i := 11) rfl rfl rfl (by kernel_rfl) rfl ⟨_, e78⟩ (fun w' ⟨I', e'⟩ => wl_no rfl ⟨rfl, rfl⟩) (g_op (i := 12) rfl rfl rfl (by kernel_rfl) rfl ⟨_, e78⟩ (fun w' ⟨I', e'⟩ => wl_no rfl ⟨rfl, rfl⟩) (g_op (i := 13) rfl rfl rfl (by kernel_rfl) rfl ⟨_, e78⟩ (fun w' ⟨I', e'⟩ => o_pick1 rfl ⟨rfl, rfl⟩) (g_op (i := 14) rfl rfl rfl (by kernel_rfl) rfl ⟨_, e78⟩ (fun w' ⟨I', e'⟩ => o_mov (.bool true) rfl ⟨rfl, rfl⟩) (g_one (i := 15) rfl (by kernel_rfl) rfl (wl_yes rfl (?_)))))))))))))
                  have h81 := (h79.1 c80)
                  refine o_ret cc5 (Wp.c0 h81 ⟨rfl, rfl⟩ s78) rfl ?_
                  rintro v82 I82 w82 e82 ⟨A82, x82, s82, ⟨rfl, r82⟩, h82⟩
                  replace s82 := s82.of_nil
                  obtain rfl : _ = _ := r82
                  refine wl_nil ⟨⟨_, (e78.trans e82)⟩, ?_⟩
                  refine g_op (i := 16) rfl rfl rfl (by kernel_rfl) rfl ⟨_, (e78.trans e82)⟩ (fun w' ⟨I', e'⟩ => o_pickt (.bool x82) rfl rfl ⟨rfl, rfl⟩) (g_op (i := 17) rfl rfl rfl (by kernel_rfl) rfl ⟨_, (e78.trans e82)⟩ (fun w' ⟨I', e'⟩ => o_asg (.bool x82) rfl ⟨rfl, rfl⟩) (g_done (by kernel_rfl) (?_)))
                  exact ret_one Try.func3 rfl rfl ((((((((((((e1.trans e4).trans e7).trans e11).trans e13).trans e15).trans e63).trans e68).trans e69).trans e73).trans e74).trans e78).trans e82) ⟨[], _, s82.drop, ⟨rfl, rfl⟩, h82⟩
                · refine g_op (i := 4) rfl rfl rfl (by kernel_rfl) rfl ⟨_, e78⟩ (fun w' ⟨I', e'⟩ => wl_yes rfl (o_mov v68 rfl ⟨rfl, rfl⟩)) (g_op (i := 5) rfl rfl rfl (by kernel_rfl) rfl ⟨_, e78⟩ (fun w' ⟨I', e'⟩ => wl_yes rfl (o_mov v68 rfl ⟨rfl, rfl⟩)) (g_op (i := 6) rfl rfl rfl (by kernel_rfl) rfl ⟨_, e78⟩ (fun w' ⟨I', e'⟩ => wl_yes rfl (o_len' (e'.rep (e74.rep r73)) rfl sl23 rfl ⟨rfl, rfl⟩)) (?_)))
                  have h83 := ((h79.2 c80) o68.bd)
                  refine g_op (i := 7) rfl rfl rfl (by kernel_rfl) rfl ⟨_, e78⟩ (fun w' ⟨I', e'⟩ => wl_yes rfl (o_subi rfl rfl h83.1 ⟨rfl, rfl⟩)) (?_)
                  obtain ⟨q84, h84⟩ := h83.2.2
                  obtain ⟨a84, v84, p84, b84, r84, x84⟩ := at_index (j := (Int.toNat ((x68.length : Int) - 1))) sl23 (e74.rep r73) q84
                  refine g_op (i := 8) rfl rfl rfl (by kernel_rfl) rfl ⟨_, e78⟩ (fun w' ⟨I', e'⟩ => wl_yes rfl (o_ix x84 rfl rfl (Int.toNat_of_nonneg h83.2.1).symm ⟨rfl, rfl⟩)) (?_)
                  have r85 := r84
                  obtain ⟨rfl, g85⟩ := rint_in r85
                  refine g_op (i := 9) rfl rfl rfl (by kernel_rfl) rfl ⟨_, e78⟩ (fun w' ⟨I', e'⟩ => wl_yes rfl (o_load ty3 (Points.mono e' b84 p84) (e'.rep r85) rfl ⟨rfl, rfl⟩)) (g_op (i := 10) rfl rfl rfl (by kernel_rfl) rfl ⟨_, e78⟩ (fun w' ⟨I', e'⟩ => wl_yes rfl (o_mov v65 rfl ⟨rfl, rfl⟩)) (g_one (i := 11) rfl (by kernel_rfl) rfl (wl_yes rfl (o_lenM (((((o65.mono e68).mono e69).mono e73).mono e74).mono e78) s78 rfl mt29 rfl (wl_nil ⟨⟨_, e78⟩, ?_⟩)))))
                  refine g_op (i := 12) rfl rfl rfl (by kernel_rfl) rfl ⟨_, e78⟩ (fun w' ⟨I', e'⟩ => wl_yes rfl (o_eqlv rfl rfl ⟨rfl, rfl⟩)) (g_op (i := 13) rfl rfl rfl (by kernel_rfl) rfl ⟨_, e78⟩ (fun w' ⟨I', e'⟩ => o_pickf (.bool (decide ((x68[(Int.toNat ((x68.length : Int) - 1))]) = (all65.length : Int)))) rfl rfl ⟨rfl, rfl⟩) (g_op (i := 14) rfl rfl rfl (by kernel_rfl) rfl ⟨_, e78⟩ (fun w' ⟨I', e'⟩ => o_mov (.bool (decide ((x68[(Int.toNat ((x68.length : Int) - 1))]) = (all65.length : Int)))) rfl ⟨rfl, rfl⟩) (?_)))
                  have h86 := (h84 g85).2
                  refine wg_casep (d := 152) rfl rfl (fun c87 => ?_) (fun c87 => ?_)
                  · refine g_one (i := 15) rfl (by kernel_rfl) rfl (wl_yes rfl (?_))
                    have h88 := (h86.1 c87)
                    refine o_ret cc5 (Wp.c0 h88 ⟨rfl, rfl⟩ s78) rfl ?_
                    rintro v89 I89 w89 e89 ⟨A89, x89, s89, ⟨rfl, r89⟩, h89⟩
                    replace s89 := s89.of_nil
                    obtain rfl : _ = _ := r89
                    refine wl_nil ⟨⟨_, (e78.trans e89)⟩, ?_⟩
                    refine g_op (i := 16) rfl rfl rfl (by kernel_rfl) rfl ⟨_, (e78.trans e89)⟩ (fun w' ⟨I', e'⟩ => o_pickt (.bool x89) rfl rfl ⟨rfl, rfl⟩) (g_op (i := 17) rfl rfl rfl (by kernel_rfl) rfl ⟨_, (e78.trans e89)⟩ (fun w' ⟨I', e'⟩ => o_asg (.bool x89) rfl ⟨rfl, rfl⟩) (g_done (by kernel_rfl) (?_)))
                    exact ret_one Try.func3 rfl rfl ((((((((((((e1.trans e4).trans e7).trans e11).trans e13).trans e15).trans e63).trans e68).trans e69).trans e73).trans e74).trans e78).trans e89) ⟨[], _, s89.drop, ⟨rfl, rfl⟩, h89⟩
                  · refine g_op (i := 15) rfl rfl rfl (by kernel_rfl) rfl ⟨_, e78⟩ (fun w' ⟨I', e'⟩ => wl_no rfl ⟨rfl, rfl⟩) (g_op (i := 16) rfl rfl rfl (by kernel_rfl) rfl ⟨_, e78⟩ (fun w' ⟨I', e'⟩ => o_pick0 rfl ⟨rfl, rfl⟩) (g_op (i := 17) rfl rfl rfl (by kernel_rfl) rfl ⟨_, e78⟩ (fun w' ⟨I', e'⟩ => o_asg (.bool false) rfl ⟨rfl, rfl⟩) (g_done (by kernel_rfl) (?_))))
                    exact ret_one Try.func3 rfl rfl (((((((((((e1.trans e4).trans e7).trans e11).trans e13).trans e15).trans e63).trans e68).trans e69).trans e73).trans e74).trans e78) ⟨[], _, s78.drop, ⟨rfl, rfl⟩, (h86.2 c87)⟩
end Go.Proofs.Ytinfniggaldheab
