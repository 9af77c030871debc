/-
  What is to be shown of each function, in plain Lean (NAME_v), and the walk that carries it to the machine (NAME_w). Part 2.
-/
import Derived.Test.Ytinfniggaldheaaw
namespace Go.Proofs.Ytinfniggaldheaa
open Go Go.X
def ref42_Plan  (parts : List (List Int)) (out : List Int) (Q : List Ref42_Step → Prop) : Prop := Wp Try.prog 30 (sD (sD sN)) (parts, out, ()) rO Q
def ref42_Plan_v  (parts : List (List Int)) (out : List Int) (Q : List Ref42_Step → Prop) : Prop := ref42_set out (fun (x1 : List Int) => Rng1 parts.length (fun j2 q2 V2 (left3 : List Int) => ((left3.length + 1) * 8 ≤ 140737488355328 ∧ V2 (left3 ++ [(j2 : Int)]))) (fun (left3 : List Int) => Lp2 (fun V7 (left8 : List Int) (ahead9 : List Int) => (left8.length ≤ 9223372036854775807 → (((0 < (left8.length : Int)) → Lp2 (fun V16 (i17 : Int) (best18 : Int) => InR i17 → InR best18 → (left8.length ≤ 9223372036854775807 → (((i17 < (left8.length : Int)) → ((0 : Int) ≤ i17) ∧ ((∃ q23 : (Int.toNat i17) < left8.length, (InR (left8[(Int.toNat i17)]) → ((0 : Int) ≤ best18) ∧ ((∃ q25 : (Int.toNat best18) < left8.length, (InR (left8[(Int.toNat best18)]) → ref42_alone parts left8 (left8[(Int.toNat i17)]) x1 (fun (x29 : Int) => InR x29 → ref42_alone parts left8 (left8[(Int.toNat best18)]) x1 (fun (x32 : Int) => InR x32 → (((x32 < x29) → (InR (i17 + 1)) ∧ (V16 (i17 + 1) i17)) ∧ (¬(x32 < x29) → (((x29 = x32) → ((0 : Int) ≤ i17) ∧ ((∃ q41 : (Int.toNat i17) < left8.length, (InR (left8[(Int.toNat i17)]) → ((0 : Int) ≤ best18) ∧ ((∃ q43 : (Int.toNat best18) < left8.length, (InR (left8[(Int.toNat best18)]) → ref42_fresh parts ahead9 (left8[(Int.toNat i17)]) (fun (x47 : Int) => InR x47 → ref42_fresh parts ahead9 (left8[(Int.toNat best18)]) (fun (x50 : Int) => InR x50 → (((x47 < x50) → (InR (i17 + 1)) ∧ (V16 (i17 + 1) i17)) ∧ (¬(x47 < x50) → (InR (i17 + 1)) ∧ (V16 (i17 + 1) best18)))))))))))) ∧ (¬(x29 = x32) → (InR (i17 + 1)) ∧ (V16 (i17 + 1) best18)))))))))))))) ∧ (¬(i17 < (left8.length : Int)) → ((0 : Int) ≤ best18) ∧ ((∃ q58 : (Int.toNat best18) < left8.length, (InR (left8[(Int.toNat best18)]) → ((ahead9.length + 1) * 8 ≤ 140737488355328 ∧ ((0 : Int) ≤ best18) ∧ (((Int.toNat best18) ≤ left8.length) ∧ ((InR (best18 + 1)) ∧ (((0 : Int) ≤ (best18 + 1)) ∧ (((Int.toNat (best18 + 1)) ≤ left8.length) ∧ (((([] : List Int).length + (left8.take (Int.toNat best18)).length) * 8 ≤ 140737488355328) ∧ ((((([] : List Int) ++ (left8.take (Int.toNat best18))).length + (left8.drop (Int.toNat (best18 + 1))).length) * 8 ≤ 140737488355328) ∧ (V7 ((([] : List Int) ++ (left8.take (Int.toNat best18))) ++ (left8.drop (Int.toNat (best18 + 1)))) (ahead9 ++ [(left8[(Int.toNat best18)])])))))))))))))))) 1 0) ∧ (¬(0 < (left8.length : Int)) → Rng1 ahead9.length (fun j72 q72 V72 (l73 : List Ref42_Step) => (∃ q76 : j72 < ahead9.length, (InR (ahead9[j72]) → Rng1 x1.length (fun j79 q79 V79 (x80 : List Int) => Rng1 ahead9.length (fun j83 q83 V83 (last84 : Int) => InR last84 → (∃ q87 : j83 < ahead9.length, (InR (ahead9[j83]) → ((0 : Int) ≤ (ahead9[j83])) ∧ ((∃ q89 : (Int.toNat (ahead9[j83])) < parts.length, (∃ q91 : j79 < x1.length, (InR (x1[j79]) → ref42_In (parts[(Int.toNat (ahead9[j83]))]) (x1[j79]) (fun (x93 : Bool) => ((x93 = true → V83 (j83 : Int)) ∧ (x93 = false → V83 last84)))))))))) (fun (last84 : Int) => InR last84 → (((last84 = (j72 : Int)) → Jn1 (fun (x98 : List Int) => V79 x98) (fun M97 => (∃ q100 : j79 < x1.length, (InR (x1[j79]) → ((x80.length + ([(x1[j79])] : List Int).length) * 8 ≤ 140737488355328) ∧ (M97 (x80 ++ ([(x1[j79])] : List Int))))))) ∧ (¬(last84 = (j72 : Int)) → V79 x80))) 0) (fun (x80 : List Int) => ((l73.length + 1) * 32 ≤ 140737488355328 ∧ V72 (l73 ++ [(⟨(ahead9[j72]), x80⟩ : Ref42_Step)]))) []))) (fun (l73 : List Ref42_Step) => Q l73) [])))) left3 []) [])
set_option maxHeartbeats 4000000 in
theorem ref42_Plan_w  {parts : List (List Int)} {out : List Int} {Q : List Ref42_Step → Prop} (h : ref42_Plan_v parts out Q) : ref42_Plan parts out Q := by
  rintro I w T A vs ⟨u0, _, rfl, (r_parts : rep I w u0 parts), u1, _, rfl, (r_out : rep I w u1 out), rfl, rfl⟩ s0
  refine ret_of_wt Try.func30 rfl Try.ntmps30 rfl ?_
  refine wt_seq (wt_region (o_assign (wl_nil (wt_seq (wt_region (o_mov u1 rfl (o_ret cc46 (Wp.c0 h ⟨_, _, rfl, r_out, rfl, rfl⟩ s0) rfl ?_)))))))
  rintro v1 I1 w1 e1 ⟨A1, x1, s1, o1, h1⟩
  refine o_asg v1 rfl (wl_nil (wt_seq (wt_region (o_assign (o_assign (wl_nil (wt_seq (wt_seq (wt_region (o_assign (wl_nil (wt_block (?_)))))))))))))
  obtain ⟨V2, z2, b2, k2⟩ := h1
  refine wt_loop (fun n f w2 => ∃ (g : Fr) (I2 : Reg) (j2 : Nat) (A3 : Own) (v3 : Value) (left3 : List Int), f = ov [(0, u0), (5, v1), (6, v3), (7, .slice none 0 0), (8, .int .i64 (j2 : Int))] g ∧ n = parts.length - j2 ∧ j2 ≤ parts.length ∧ Ext I1 w1 I2 w2 ∧ St I2 w2 (A3 ++ (A1 ++ T)) ∧ OwnSl I2 w2 A3 v3 left3 ∧ V2 j2 left3) _ ⟨_, _, 0, [], (.slice none 0 0), [], ov_self _ _ ⟨rfl, rfl, rfl, rfl, rfl, trivial⟩, rfl, Nat.zero_le _, Ext.refl _ _, s1, OwnSl.nil, z2⟩ ?_
  rintro n f w2 ⟨g, I2, j2, A3, v3, left3, rfl, rfl, l2, e2, s2, o3, h2⟩ i2
  refine wt_seq (wt_seq (wt_region (o_mov (.int .i64 (j2 : Int)) rfl (o_mov u0 rfl (o_len' (e2.rep (e1.rep r_parts)) rfl sl29 rfl (o_lssv rfl rfl (wl_nil (wt_condp rfl (fun q2 => ?_) (fun q2 => ?_)))))))))
  · have y2 := b2 _ (rng_lt q2) _ h2
    have q2n := rng_lt q2
    refine wt_skip (wt_seq (wt_block (wt_region (o_mov v3 rfl (o_mov (.int .i64 (j2 : Int)) rfl (v_app1 sl22 rfl rfl rfl s2 o3 ⟨rfl, (inr_nat l2 (rep_len r_parts)).1, (inr_nat l2 (rep_len r_parts)).2⟩ rfl rfl y2 rfl (fun u6 v6 A6 I6 w6 e6 s6 o6 l6 h6 => ?_)))))))
    refine o_asg v6 rfl (wl_nil (wt_inBlock (wt_region (o_mov (.int .i64 (j2 : Int)) rfl (o_addi rfl rfl (inr_succ0 q2n (rep_len r_parts)) (o_asg (.int .i64 ((j2 : Int) + 1)) rfl (wl_nil (?_))))))))
    exact i2.out _ _ _ (by omega) ⟨_, _, j2 + 1, A6, v6, (left3 ++ [(j2 : Int)]), ov_self _ _ ⟨rfl, rfl, rfl, rfl, rfl, trivial⟩, rfl, q2n, (e2.trans e6), s6, o6, h6⟩
  · have y2 := k2 _ (rng_end (I := fun j => V2 j left3) l2 q2 h2)
    refine wt_exit rfl (wt_seq (wt_block (?_)))
    obtain ⟨V7, n7, z7, b7⟩ := y2
    refine wt_loop (fun n f w7 => ∃ (g : Fr) (I7 : Reg) (A8 : Own) (v8 : Value) (left8 : List Int) (A9 : Own) (v9 : Value) (ahead9 : List Int), f = ov [(0, u0), (5, v1), (6, v8), (7, v9)] g ∧ Ext I2 w2 I7 w7 ∧ St I7 w7 (A9 ++ (A8 ++ (A1 ++ T))) ∧ OwnSl I7 w7 A8 v8 left8 ∧ OwnSl I7 w7 A9 v9 ahead9 ∧ V7 n left8 ahead9) n7 ⟨_, _, A3, v3, left3, [], (.slice none 0 0), [], ov_self _ _ ⟨rfl, rfl, rfl, rfl, trivial⟩, Ext.refl _ _, s2, o3, OwnSl.nil, z7⟩ ?_
    rintro n f w7 ⟨g, I7, A8, v8, left8, A9, v9, ahead9, rfl, e7, s7, o8, o9, h7⟩ i7
    have y7 := b7 _ _ _ h7
    refine wt_seq (wt_seq (wt_region (o_mov v8 rfl (o_lenO o8 rfl sl22 rfl (o_gtrv rfl rfl (wl_nil (?_)))))))
    have h11 := (y7 o8.bd)
    refine wt_condp rfl (fun c12 => ?_) (fun c12 => ?_)
    · refine wt_skip (wt_block (wt_seq (wt_region (o_assign (wl_nil (wt_seq (wt_seq (wt_region (o_assign (wl_nil (wt_block (?_))))))))))))
      have h13 := (h11.1 c12)
      have s15 := s7.rot1
      obtain ⟨I14, e14, s14, r14⟩ := OwnSl.freeze o8 s15
      obtain ⟨V16, n16, z16, b16⟩ := h13
      refine wt_loop (fun n f w16 => ∃ (g : Fr) (I16 : Reg) (i17 : Int) (best18 : Int), f = ov [(0, u0), (5, v1), (6, v8), (7, v9), (9, .int .i64 best18), (10, .int .i64 i17)] g ∧ Ext I14 w7 I16 w16 ∧ St I16 w16 (A9 ++ (A1 ++ T)) ∧ InR i17 ∧ InR best18 ∧ V16 n i17 best18) n16 ⟨_, _, 1, 0, ov_self _ _ ⟨rfl, rfl, rfl, rfl, rfl, rfl, trivial⟩, Ext.refl _ _, s14, (inr_lit (by decide) (by decide)), (inr_lit (by decide) (by decide)), z16⟩ ?_
      rintro n f w16 ⟨g, I16, i17, best18, rfl, e16, s16, g17, g18, h16⟩ i16
      have y16 := b16 _ _ _ h16 g17 g18
      refine wt_seq (wt_seq (wt_region (o_mov (.int .i64 i17) rfl (o_mov v8 rfl (o_len' (e16.rep r14) rfl sl22 rfl (o_lssv rfl rfl (wl_nil (?_))))))))
      have h19 := (y16 o8.bd)
      refine wt_condp rfl (fun c20 => ?_) (fun c20 => ?_)
      · refine wt_skip (wt_seq (wt_block (wt_seq (wt_drawS s16 mixed rfl (fun w21 e21 s21 => ?_)))))
        refine g_op (i := 0) rfl rfl rfl (by kernel_rfl) rfl ⟨_, e21⟩ (fun w' ⟨I', e'⟩ => o_mov u0 rfl ⟨rfl, rfl⟩) (g_op (i := 1) rfl rfl rfl (by kernel_rfl) rfl ⟨_, e21⟩ (fun w' ⟨I', e'⟩ => o_mov v8 rfl ⟨rfl, rfl⟩) (g_op (i := 2) rfl rfl rfl (by kernel_rfl) rfl ⟨_, e21⟩ (fun w' ⟨I', e'⟩ => o_mov v8 rfl ⟨rfl, rfl⟩) (g_op (i := 3) rfl rfl rfl (by kernel_rfl) rfl ⟨_, e21⟩ (fun w' ⟨I', e'⟩ => o_mov (.int .i64 i17) rfl ⟨rfl, rfl⟩) (?_))))
        have h22 := (h19.1 c20)
        obtain ⟨q23, h23⟩ := h22.2
        obtain ⟨a23, v23, p23, b23, r23, x23⟩ := at_index (j := (Int.toNat i17)) sl22 (e16.rep r14) q23
        refine g_op (i := 4) rfl rfl rfl (by kernel_rfl) rfl ⟨_, e21⟩ (fun w' ⟨I', e'⟩ => o_ix x23 rfl rfl (Int.toNat_of_nonneg h22.1).symm ⟨rfl, rfl⟩) (?_)
        have r24 := r23
        obtain ⟨rfl, g24⟩ := rint_in r24
        refine g_op (i := 5) rfl rfl rfl (by kernel_rfl) rfl ⟨_, e21⟩ (fun w' ⟨I', e'⟩ => o_load ty3 (Points.mono e' b23 p23) (e'.rep r24) rfl ⟨rfl, rfl⟩) (g_op (i := 6) rfl rfl rfl (by kernel_rfl) rfl ⟨_, e21⟩ (fun w' ⟨I', e'⟩ => o_mov v1 rfl ⟨rfl, rfl⟩) (g_op (i := 8) rfl rfl rfl (by kernel_rfl) rfl ⟨_, e21⟩ (fun w' ⟨I', e'⟩ => o_mov u0 rfl ⟨rfl, rfl⟩) (g_op (i := 9) rfl rfl rfl (by kernel_rfl) rfl ⟨_, e21⟩ (fun w' ⟨I', e'⟩ => o_mov v8 rfl ⟨rfl, rfl⟩) (g_op (i := 10) rfl rfl rfl (by kernel_rfl) rfl ⟨_, e21⟩ (fun w' ⟨I', e'⟩ => o_mov v8 rfl ⟨rfl, rfl⟩) (g_op (i := 11) rfl rfl rfl (by kernel_rfl) rfl ⟨_, e21⟩ (fun w' ⟨I', e'⟩ => o_mov (.int .i64 best18) rfl ⟨rfl, rfl⟩) (?_))))))
        obtain ⟨q25, h25⟩ := (h23 g24).2
        obtain ⟨a25, v25, p25, b25, r25, x25⟩ := at_index (j := (Int.toNat best18)) sl22 (e16.rep r14) q25
        refine g_op (i := 12) rfl rfl rfl (by kernel_rfl) rfl ⟨_, e21⟩ (fun w' ⟨I', e'⟩ => o_ix x25 rfl rfl (Int.toNat_of_nonneg (h23 g24).1).symm ⟨rfl, rfl⟩) (?_)
        have r26 := r25
        obtain ⟨rfl, g26⟩ := rint_in r26
        refine g_op (i := 13) rfl rfl rfl (by kernel_rfl) rfl ⟨_, e21⟩ (fun w' ⟨I', e'⟩ => o_load ty3 (Points.mono e' b25 p25) (e'.rep r26) rfl ⟨rfl, rfl⟩) (g_op (i := 14) rfl rfl rfl (by kernel_rfl) rfl ⟨_, e21⟩ (fun w' ⟨I', e'⟩ => o_mov v1 rfl ⟨rfl, rfl⟩) (g_one (i := 7) rfl (by kernel_rfl) rfl (?_)))
        have s28 := s21.rot1
        obtain ⟨e27, s27, r27⟩ := OwnSl.lend (((((o1.mono e2).mono e7).mono e14).mono e16).mono e21) s28
        refine o_ret cc47 (Wp.c0 (h25 g26) ⟨_, _, rfl, (e27.rep (e21.rep (e16.rep (e14.rep (e7.rep (e2.rep (e1.rep r_parts))))))), _, _, rfl, (e27.rep (e21.rep (e16.rep r14))), _, _, rfl, ⟨rfl, g24.1, g24.2⟩, _, _, rfl, r27, rfl, rfl⟩ s27) rfl ?_
        rintro v29 I29 w29 e29 ⟨A29, x29, s29, ⟨rfl, r29⟩, h29⟩
        replace s29 := s29.of_nil
        obtain ⟨rfl, g29⟩ := rint_in r29
        obtain ⟨I30, e30, s30⟩ := St.back s28 e29 s29
        refine wl_nil ⟨⟨_, (e21.trans e30)⟩, ?_⟩
        refine g_one (i := 15) rfl (by kernel_rfl) rfl (?_)
        obtain ⟨e31, s31, r31⟩ := OwnSl.lend ((((((o1.mono e2).mono e7).mono e14).mono e16).mono e21).mono e30) s30
        refine o_ret cc47 (Wp.c0 (h29 g29) ⟨_, _, rfl, (e31.rep (e30.rep (e21.rep (e16.rep (e14.rep (e7.rep (e2.rep (e1.rep r_parts)))))))), _, _, rfl, (e31.rep (e30.rep (e21.rep (e16.rep r14)))), _, _, rfl, ⟨rfl, g26.1, g26.2⟩, _, _, rfl, r31, rfl, rfl⟩ s31) rfl ?_
        rintro v32 I32 w32 e32 ⟨A32, x32, s32, ⟨rfl, r32⟩, h32⟩
        replace s32 := s32.of_nil
        obtain ⟨rfl, g32⟩ := rint_in r32
        obtain ⟨I33, e33, s33⟩ := St.back s30 e32 s32
        refine wl_nil ⟨⟨_, ((e21.trans e30).trans e33)⟩, ?_⟩
        refine g_op (i := 16) rfl rfl rfl (by kernel_rfl) rfl ⟨_, ((e21.trans e30).trans e33)⟩ (fun w' ⟨I', e'⟩ => o_asg (.int .i64 x29) rfl ⟨rfl, rfl⟩) (g_op (i := 17) rfl rfl rfl (by kernel_rfl) rfl ⟨_, ((e21.trans e30).trans e33)⟩ (fun w' ⟨I', e'⟩ => o_asg (.int .i64 x32) rfl ⟨rfl, rfl⟩) (g_done (by kernel_rfl) (wt_seq (wt_drawS s33 mixed rfl (fun w34 e34 s34 => ?_)))))
        refine g_op (i := 0) rfl rfl rfl (by kernel_rfl) rfl ⟨_, e34⟩ (fun w' ⟨I', e'⟩ => o_mov (.int .i64 x29) rfl ⟨rfl, rfl⟩) (g_op (i := 1) rfl rfl rfl (by kernel_rfl) rfl ⟨_, e34⟩ (fun w' ⟨I', e'⟩ => o_mov (.int .i64 x32) rfl ⟨rfl, rfl⟩) (g_op (i := 2) rfl rfl rfl (by kernel_rfl) rfl ⟨_, e34⟩ (fun w' ⟨I', e'⟩ => o_gtrv rfl rfl ⟨rfl, rfl⟩) (g_op (i := 3) rfl rfl rfl (by kernel_rfl) rfl ⟨_, e34⟩ (fun w' ⟨I', e'⟩ => o_mov (.bool (decide (x32 < x29))) rfl ⟨rfl, rfl⟩) (wg_casep (d := 59) rfl rfl (fun c35 => ?_) (fun c35 => ?_)))))
        · refine g_op (i := 4) rfl rfl rfl (by kernel_rfl) rfl ⟨_, e34⟩ (fun w' ⟨I', e'⟩ => wl_no rfl ⟨rfl, rfl⟩) (g_op (i := 5) rfl rfl rfl (by kernel_rfl) rfl ⟨_, e34⟩ (fun w' ⟨I', e'⟩ => wl_no rfl ⟨rfl, rfl⟩) (g_op (i := 6) rfl rfl rfl (by kernel_rfl) rfl ⟨_, e34⟩ (fun w' ⟨I', e'⟩ => wl_no rfl ⟨rfl, rfl⟩) (g_op (i := 7) rfl rfl rfl (by kernel_rfl) rfl ⟨_, e34⟩ (fun w' ⟨I', e'⟩ => wl_no rfl ⟨rfl, rfl⟩) (g_op (i := 8) rfl rfl rfl (by kernel_rfl) rfl ⟨_, e34⟩ (fun w' ⟨I', e'⟩ => wl_no rfl ⟨rfl, rfl⟩) (g_op (i := 9) rfl rfl rfl (by kernel_rfl) rfl ⟨_, e34⟩ (fun w' ⟨I', e'⟩ => wl_no rfl ⟨rfl, rfl⟩) (g_op (i := 10) rfl rfl rfl (by kernel_rfl) rfl ⟨_, e34⟩ (fun w' ⟨I', e'⟩ => wl_no rfl ⟨rfl, rfl⟩) (g_op (i := 11) rfl rfl rfl (by kernel_rfl) rfl ⟨_, e34⟩ (fun w' ⟨I', e'⟩ => wl_no rfl ⟨rfl, rfl⟩) (g_op (i := 12) rfl rfl rfl (by kernel_rfl) rfl ⟨_, e34⟩ (fun w' ⟨I', e'⟩ => wl_no rfl ⟨rfl, rfl⟩) (g_op (i := 13) rfl rfl rfl (by kernel_rfl) rfl ⟨_, e34⟩ (fun w' ⟨I', e'⟩ => wl_no rfl ⟨rfl, rfl⟩) (g_op (i := 14) rfl rfl rfl (by kernel_rfl) rfl ⟨_, e34⟩ (fun w' ⟨I', e'⟩ => wl_no rfl ⟨rfl, rfl⟩) (g_op (i := 15) rfl rfl rfl (by kernel_rfl) rfl ⟨_, e34⟩ (fun w' ⟨I', e'⟩ => wl_no rfl ⟨rfl, rfl⟩) (g_op (i := 16) rfl rfl rfl (by kernel_rfl) rfl ⟨_, e34⟩ (fun w' ⟨I', e'⟩ => wl_no rfl ⟨rfl, rfl⟩) (g_op (i := 17) rfl rfl rfl (by kernel_rfl) rfl ⟨_, e34⟩ (fun w' ⟨I', e'⟩ => wl_no rfl ⟨rfl, rfl⟩) (g_op (i := 18) rfl rfl rfl (by kernel_rfl) rfl ⟨_, e34⟩ (fun w' ⟨I', e'⟩ => wl_no rfl ⟨rfl, rfl⟩) (g_op (i := 19) rfl rfl rfl (by kernel_rfl) rfl ⟨_, e34⟩ (fun w' ⟨I', e'⟩ => wl_no rfl ⟨rfl, rfl⟩) (g_op (i := 20) rfl rfl rfl (by kernel_rfl) rfl ⟨_, e34⟩ (fun w' ⟨I', e'⟩ => wl_no rfl ⟨rfl, rfl⟩) (g_op (i := 21) rfl rfl rfl (by kernel_rfl) rfl ⟨_, e34⟩ (fun w' ⟨I', e'⟩ => wl_no rfl ⟨rfl, rfl⟩) (g_op (i := 22) rfl rfl rfl (by kernel_rfl) rfl ⟨_, e34⟩ (fun w' ⟨I', e'⟩ => wl_no rfl ⟨rfl, rfl⟩) (g_op (i := 23) rfl rfl rfl (by kernel_rfl) rfl ⟨_, e34⟩ (fun w' ⟨I', e'⟩ => wl_no rfl ⟨rfl, rfl⟩) (g_op (i := 24) rfl rfl rfl (by kernel_rfl) rfl ⟨_, e34⟩ (fun w' ⟨I', e'⟩ => o_pick1 rfl ⟨rfl, rfl⟩) (g_done (by kernel_rfl) (wt_true rfl (wt_region (o_mov (.int .i64 i17) rfl (o_asg (.int .i64 i17) rfl (wl_nil (wt_inBlock (wt_region (o_mov (.int .i64 i17) rfl (?_))))))))))))))))))))))))))))))
          have h36 := ((h32 g32).1 c35)
          refine o_addi rfl rfl h36.1 (o_asg (.int .i64 (i17 + 1)) rfl (wl_nil (?_)))
          have s37 := s34.rot1
          obtain ⟨n16, m16, z16⟩ := h36.2
          exact i16.out _ _ _ m16 ⟨_, _, (i17 + 1), i17, ov_self _ _ ⟨rfl, rfl, rfl, rfl, rfl, rfl, trivial⟩, ((((e16.trans e21).trans e30).trans e33).trans e34), s37, h36.1, g17, z16⟩
        · refine g_op (i := 4) rfl rfl rfl (by kernel_rfl) rfl ⟨_, e34⟩ (fun w' ⟨I', e'⟩ => wl_yes rfl (o_mov (.int .i64 x29) rfl ⟨rfl, rfl⟩)) (g_op (i := 5) rfl rfl rfl (by kernel_rfl) rfl ⟨_, e34⟩ (fun w' ⟨I', e'⟩ => wl_yes rfl (o_mov (.int .i64 x32) rfl ⟨rfl, rfl⟩)) (g_op (i := 6) rfl rfl rfl (by kernel_rfl) rfl ⟨_, e34⟩ (fun w' ⟨I', e'⟩ => wl_yes rfl (o_eqlv rfl rfl ⟨rfl, rfl⟩)) (g_op (i := 7) rfl rfl rfl (by kernel_rfl) rfl ⟨_, e34⟩ (fun w' ⟨I', e'⟩ => wl_yes rfl (o_mov (.bool (decide (x29 = x32))) rfl ⟨rfl, rfl⟩)) (?_))))
          have h38 := ((h32 g32).2 c35)
          refine wg_casep (d := 63) rfl rfl (fun c39 => ?_) (fun c39 => ?_)
          · refine g_op (i := 8) rfl rfl rfl (by kernel_rfl) rfl ⟨_, e34⟩ (fun w' ⟨I', e'⟩ => wl_yes rfl (o_mov u0 rfl ⟨rfl, rfl⟩)) (g_op (i := 9) rfl rfl rfl (by kernel_rfl) rfl ⟨_, e34⟩ (fun w' ⟨I', e'⟩ => wl_yes rfl (o_mov v9 rfl ⟨rfl, rfl⟩)) (g_op (i := 10) rfl rfl rfl (by kernel_rfl) rfl ⟨_, e34⟩ (fun w' ⟨I', e'⟩ => wl_yes rfl (o_mov v8 rfl ⟨rfl, rfl⟩)) (g_op (i := 11) rfl rfl rfl (by kernel_rfl) rfl ⟨_, e34⟩ (fun w' ⟨I', e'⟩ => wl_yes rfl (o_mov (.int .i64 i17) rfl ⟨rfl, rfl⟩)) (?_))))
            have h40 := (h38.1 c39)
            obtain ⟨q41, h41⟩ := h40.2
            obtain ⟨a41, v41, p41, b41, r41, x41⟩ := at_index (j := (Int.toNat i17)) sl22 (e33.rep (e30.rep (e21.rep (e16.rep r14)))) q41
            refine g_op (i := 12) rfl rfl rfl (by kernel_rfl) rfl ⟨_, e34⟩ (fun w' ⟨I', e'⟩ => wl_yes rfl (o_ix x41 rfl rfl (Int.toNat_of_nonneg h40.1).symm ⟨rfl, rfl⟩)) (?_)
            have r42 := r41
            obtain ⟨rfl, g42⟩ := rint_in r42
            refine g_op (i := 13) rfl rfl rfl (by kernel_rfl) rfl ⟨_, e34⟩ (fun w' ⟨I', e'⟩ => wl_yes rfl (o_load ty3 (Points.mono e' b41 p41) (e'.rep r42) rfl ⟨rfl, rfl⟩)) (g_op (i := 15) rfl rfl rfl (by kernel_rfl) rfl ⟨_, e34⟩ (fun w' ⟨I', e'⟩ => wl_yes rfl (o_mov u0 rfl ⟨rfl, rfl⟩)) (g_op (i := 16) rfl rfl rfl (by kernel_rfl) rfl ⟨_, e34⟩ (fun w' ⟨I', e'⟩ => wl_yes rfl (o_mov v9 rfl ⟨rfl, rfl⟩)) (g_op (i := 17) rfl rfl rfl (by kernel_rfl) rfl ⟨_, e34⟩ (fun w' ⟨I', e'⟩ => wl_yes rfl (o_mov v8 rfl ⟨rfl, rfl⟩)) (g_op (i := 18) rfl rfl rfl (by kernel_rfl) rfl ⟨_, e34⟩ (fun w' ⟨I', e'⟩ => wl_yes rfl (o_mov (.int .i64 best18) rfl ⟨rfl, rfl⟩)) (?_)))))
            obtain ⟨q43, h43⟩ := (h41 g42).2
            obtain ⟨a43, v43, p43, b43, r43, x43⟩ := at_index (j := (Int.toNat best18)) sl22 (e33.rep (e30.rep (e21.rep (e16.rep r14)))) q43
            refine g_op (i := 19) rfl rfl rfl (by kernel_rfl) rfl ⟨_, e34⟩ (fun w' ⟨I', e'⟩ => wl_yes rfl (o_ix x43 rfl rfl (Int.toNat_of_nonneg (h41 g42).1).symm ⟨rfl, rfl⟩)) (?_)
            have r44 := r43
            obtain ⟨rfl, g44⟩ := rint_in r44
            refine g_op (i := 20) rfl rfl rfl (by kernel_rfl) rfl ⟨_, e34⟩ (fun w' ⟨I', e'⟩ => wl_yes rfl (o_load ty3 (Points.mono e' b43 p43) (e'.rep r44) rfl ⟨rfl, rfl⟩)) (g_one (i := 14) rfl (by kernel_rfl) rfl (wl_yes rfl (?_)))
            have s46 := s34.rot1
            obtain ⟨e45, s45, r45⟩ := OwnSl.lend ((((((o9.mono e14).mono e16).mono e21).mono e30).mono e33).mono e34) s46
            refine o_ret cc48 (Wp.c0 (h43 g44) ⟨_, _, rfl, (e45.rep (e34.rep (e33.rep (e30.rep (e21.rep (e16.rep (e14.rep (e7.rep (e2.rep (e1.rep r_parts)))))))))), _, _, rfl, r45, _, _, rfl, ⟨rfl, g42.1, g42.2⟩, rfl, rfl⟩ s45) rfl ?_
            rintro v47 I47 w47 e47 ⟨A47, x47, s47, ⟨rfl, r47⟩, h47⟩
            replace s47 := s47.of_nil
            obtain ⟨rfl, g47⟩ := rint_in r47
            obtain ⟨I48, e48, s48⟩ := St.back s46 e47 s47
            refine wl_nil ⟨⟨_, (e34.trans e48)⟩, ?_⟩
            refine g_one (i := 21) rfl (by kernel_rfl) rfl (wl_yes rfl (?_))
            obtain ⟨e49, s49, r49⟩ := OwnSl.lend (((((((o9.mono e14).mono e16).mono e21).mono e30).mono e33).mono e34).mono e48) s48
            refine o_ret cc48 (Wp.c0 (h47 g47) ⟨_, _, rfl, (e49.rep (e48.rep (e34.rep (e33.rep (e30.rep (e21.rep (e16.rep (e14.rep (e7.rep (e2.rep (e1.rep r_parts))))))))))), _, _, rfl, r49, _, _, rfl, ⟨rfl, g44.1, g44.2⟩, rfl, rfl⟩ s49) rfl ?_
            rintro v50 I50 w50 e50 ⟨A50, x50, s50, ⟨rfl, r50⟩, h50⟩
            replace s50 := s50.of_nil
            obtain ⟨rfl, g50⟩ := rint_in r50
            obtain ⟨I51, e51, s51⟩ := St.back s48 e50 s50
            refine wl_nil ⟨⟨_, ((e34.trans e48).trans e51)⟩, ?_⟩
            refine g_op (i := 22) rfl rfl rfl (by kernel_rfl) rfl ⟨_, ((e34.trans e48).trans e51)⟩ (fun w' ⟨I', e'⟩ => wl_yes rfl (o_lssv rfl rfl ⟨rfl, rfl⟩)) (g_op (i := 23) rfl rfl rfl (by kernel_rfl) rfl ⟨_, ((e34.trans e48).trans e51)⟩ (fun w' ⟨I', e'⟩ => wl_yes rfl (o_pickt (.bool (decide (x47 < x50))) rfl rfl ⟨rfl, rfl⟩)) (g_op (i := 24) rfl rfl rfl (by kernel_rfl) rfl ⟨_, ((e34.trans e48).trans e51)⟩ (fun w' ⟨I', e'⟩ => o_pickf (.bool (decide (x47 < x50))) rfl rfl ⟨rfl, rfl⟩) (g_done (by kernel_rfl) (wt_condp rfl (fun c52 => ?_) (fun c52 => ?_)))))
            · refine wt_region (o_mov (.int .i64 i17) rfl (o_asg (.int .i64 i17) rfl (wl_nil (wt_inBlock (wt_region (o_mov (.int .i64 i17) rfl (?_)))))))
              have h53 := ((h50 g50).1 c52)
              refine o_addi rfl rfl h53.1 (o_asg (.int .i64 (i17 + 1)) rfl (wl_nil (?_)))
              obtain ⟨n16, m16, z16⟩ := h53.2
              exact i16.out _ _ _ m16 ⟨_, _, (i17 + 1), i17, ov_self _ _ ⟨rfl, rfl, rfl, rfl, rfl, rfl, trivial⟩, ((((((e16.trans e21).trans e30).trans e33).trans e34).trans e48).trans e51), s51, h53.1, g17, z16⟩
            · refine wt_skip (wt_inBlock (wt_region (o_mov (.int .i64 i17) rfl (?_))))
              have h54 := ((h50 g50).2 c52)
              refine o_addi rfl rfl h54.1 (o_asg (.int .i64 (i17 + 1)) rfl (wl_nil (?_)))
              obtain ⟨n16, m16, z16⟩ := h54.2
              exact i16.out _ _ _ m16 ⟨_, _, (i17 + 1), best18, ov_self _ _ ⟨rfl, rfl, rfl, rfl, rfl, rfl, trivial⟩, ((((((e16.trans e21).trans e30).trans e33).trans e34).trans e48).trans e51), s51, h54.1, g18, z16⟩
          · refine g_op (i := 8) rfl rfl rfl (by kernel_rfl) rfl ⟨_, e34⟩ (fun w' ⟨I', e'⟩ => wl_no rfl ⟨rfl, rfl⟩) (g_op (i := 9) rfl rfl rfl (by kernel_rfl) rfl ⟨_, e34⟩ (fun w' ⟨I', e'⟩ => wl_no rfl ⟨rfl, rfl⟩) (g_op (i := 10) rfl rfl rfl (by kernel_rfl) rfl ⟨_, e34⟩ (fun w' ⟨I', e'⟩ => wl_no rfl ⟨rfl, rfl⟩) (g_op (i := 11) rfl rfl rfl (by kernel_rfl) rfl ⟨_, e34⟩ (fun w' ⟨I', e'⟩ => wl_no rfl ⟨rfl, rfl⟩) (g_op (i := 12) rfl rfl rfl (by kernel_rfl) rfl ⟨_, e34⟩ (fun w' ⟨I', e'⟩ => wl_no rfl ⟨rfl, rfl⟩) (g_op (i := 13) rfl rfl rfl (by kernel_rfl) rfl ⟨_, e34⟩ (fun w' ⟨I', e'⟩ => wl_no rfl ⟨rfl, rfl⟩) (g_op (i := 14) rfl rfl rfl (by kernel_rfl) rfl ⟨_, e34⟩ (fun w' ⟨I', e'⟩ => wl_no rfl ⟨rfl, rfl⟩) (g_op (i := 15) rfl rfl rfl (by kernel_rfl) rfl ⟨_, e34⟩ (fun w' ⟨I', e'⟩ => wl_no rfl ⟨rfl, rfl⟩) (g_op (i := 16) rfl rfl rfl (by kernel_rfl) rfl ⟨_, e34⟩ (fun w' ⟨I', e'⟩ => wl_no rfl ⟨rfl, rfl⟩) (g_op (i := 17) rfl rfl rfl (by kernel_rfl) rfl ⟨_, e34⟩ (fun w' ⟨I', e'⟩ => wl_no rfl ⟨rfl, rfl⟩) (g_op (i := 18) rfl rfl rfl (by kernel_rfl) rfl ⟨_, e34⟩ (fun w' ⟨I', e'⟩ => wl_no rfl ⟨rfl, rfl⟩) (g_op (i := 19) rfl rfl rfl (by kernel_rfl) rfl ⟨_, e34⟩ (fun w' ⟨I', e'⟩ => wl_no rfl ⟨rfl, rfl⟩) (g_op (i := 20) rfl rfl rfl (by kernel_rfl) rfl ⟨_, e34⟩ (fun w' ⟨I', e'⟩ => wl_no rfl ⟨rfl, rfl⟩) (g_op (i := 21) rfl rfl rfl (by kernel_rfl) rfl ⟨_, e34⟩ (fun w' ⟨I', e'⟩ => wl_no rfl ⟨rfl, rfl⟩) (g_op (i := 22) rfl rfl rfl (by kernel_rfl) rfl ⟨_, e34⟩ (fun w' ⟨I', e'⟩ => wl_no rfl ⟨rfl, rfl⟩) (g_op (i := 23) rfl rfl rfl (by kernel_rfl) rfl ⟨_, e34⟩ (fun w' ⟨I', e'⟩ => wl_yes rfl (o_pick0 rfl ⟨rfl, rfl⟩)) (g_op (i := 24) rfl rfl rfl (by kernel_rfl) rfl ⟨_, e34⟩ (fun w' ⟨I', e'⟩ => o_pickf (.bool false) rfl rfl ⟨rfl, rfl⟩) (g_done (by kernel_rfl) (wt_false rfl (wt_skip (wt_inBlock (wt_region (o_mov (.int .i64 i17) rfl (?_)))))))))))))))))))))))
            have h55 := (h38.2 c39)
            refine o_addi rfl rfl h55.1 (o_asg (.int .i64 (i17 + 1)) rfl (wl_nil (?_)))
            have s56 := s34.rot1
            obtain ⟨n16, m16, z16⟩ := h55.2
            exact i16.out _ _ _ m16 ⟨_, _, (i17 + 1), best18, ov_self _ _ ⟨rfl, rfl, rfl, rfl, rfl, rfl, trivial⟩, ((((e16.trans e21).trans e30).trans e33).trans e34), s56, h55.1, g18, z16⟩
      · refine wt_exit rfl (wt_seq (wt_region (o_mov v9 rfl (o_mov v8 rfl (o_mov (.int .i64 best18) rfl (?_))))))
        have h57 := (h19.2 c20)
        refine v_il (j := (Int.toNat best18)) sl22 (e16.rep r14) rfl rfl (Int.toNat_of_nonneg h57.1).symm rfl ty3 h57.2 (fun q58 a58 v58 r58 h58 => ?_)
        obtain ⟨rfl, g58⟩ := rint_in r58
        refine v_app1 sl22 rfl rfl rfl s16 ((o9.mono e14).mono e16) ⟨rfl, g58.1, g58.2⟩ rfl rfl (h58 g58) rfl (fun u59 v59 A59 I59 w59 e59 s59 o59 l59 h59 => ?_)
        refine o_asg v59 rfl (wl_nil (wt_drawS s59 mixed rfl (fun w60 e60 s60 => ?_)))
        refine g_op (i := 1) rfl rfl rfl (by kernel_rfl) rfl ⟨_, e60⟩ (fun w' ⟨I', e'⟩ => o_mov v8 rfl ⟨rfl, rfl⟩) (g_op (i := 2) rfl rfl rfl (by kernel_rfl) rfl ⟨_, e60⟩ (fun w' ⟨I', e'⟩ => o_mov (.int .i64 best18) rfl ⟨rfl, rfl⟩) (?_))
        obtain ⟨v61, r61, x61⟩ := at_take (j := (Int.toNat best18)) sl22 (e59.rep (e16.rep r14)) h59.2.1
        refine g_op (i := 3) rfl rfl rfl (by kernel_rfl) rfl ⟨_, e60⟩ (fun w' ⟨I', e'⟩ => o_slT x61 rfl rfl (Int.toNat_of_nonneg h59.1).symm ⟨rfl, rfl⟩) (g_op (i := 5) rfl rfl rfl (by kernel_rfl) rfl ⟨_, e60⟩ (fun w' ⟨I', e'⟩ => o_mov v8 rfl ⟨rfl, rfl⟩) (g_op (i := 6) rfl rfl rfl (by kernel_rfl) rfl ⟨_, e60⟩ (fun w' ⟨I', e'⟩ => o_mov (.int .i64 best18) rfl ⟨rfl, rfl⟩) (g_op (i := 7) rfl rfl rfl (by kernel_rfl) rfl ⟨_, e60⟩ (fun w' ⟨I', e'⟩ => o_addi rfl rfl h59.2.2.1 ⟨rfl, rfl⟩) (?_))))
        have h63 := h59.2.2.2.2
        obtain ⟨v62, r62, x62⟩ := at_drop (j := (Int.toNat (best18 + 1))) sl22 (e59.rep (e16.rep r14)) h63.1
        refine g_op (i := 8) rfl rfl rfl (by kernel_rfl) rfl ⟨_, e60⟩ (fun w' ⟨I', e'⟩ => o_slD x62 rfl rfl (Int.toNat_of_nonneg h59.2.2.2.1).symm ⟨rfl, rfl⟩) (g_one (i := 0) rfl (by kernel_rfl) rfl (o_buildO (xs := ([] : List Int)) (vs := []) sl22 s60 rfl trivial rfl rfl (fun v64 A64 w64 e64 s64 o64 => ?_)))
        refine wl_nil ⟨⟨_, (e60.trans e64)⟩, ?_⟩
        refine g_one (i := 4) rfl (by kernel_rfl) rfl (o_append sl22 s64 o64 (e64.rep (e60.rep r61)) rfl rfl h63.2.1 (app_le h63.2.1) (fun v65 A65 w65 e65 s65 o65 => ?_))
        refine wl_nil ⟨⟨_, ((e60.trans e64).trans e65)⟩, ?_⟩
        refine g_one (i := 9) rfl (by kernel_rfl) rfl (o_append sl22 s65 o65 (e65.rep (e64.rep (e60.rep r62))) rfl rfl h63.2.2.1 (app_le h63.2.2.1) (fun v66 A66 w66 e66 s66 o66 => ?_))
        refine wl_nil ⟨⟨_, (((e60.trans e64).trans e65).trans e66)⟩, ?_⟩
        refine g_op (i := 10) rfl rfl rfl (by kernel_rfl) rfl ⟨_, (((e60.trans e64).trans e65).trans e66)⟩ (fun w' ⟨I', e'⟩ => o_asg v66 rfl ⟨rfl, rfl⟩) (g_done (by kernel_rfl) (wt_inBlock (?_)))
        have s67 := s66.rot1
        obtain ⟨n7, m7, z7⟩ := h63.2.2.2
        exact i7.out _ _ _ m7 ⟨_, _, A66, v66, ((([] : List Int) ++ (left8.take (Int.toNat best18))) ++ (left8.drop (Int.toNat (best18 + 1)))), A59, v59, (ahead9 ++ [(left8[(Int.toNat best18)])]), ov_self _ _ ⟨rfl, rfl, rfl, rfl, trivial⟩, (((((((e7.trans e14).trans e16).trans e59).trans e60).trans e64).trans e65).trans e66), s67, o66, ((((o59.mono e60).mono e64).mono e65).mono e66), z7⟩
    · refine wt_exit rfl (wt_seq (wt_region (o_assign (wl_nil (wt_seq (wt_seq (wt_region (o_assign (wl_nil (wt_block (?_)))))))))))
      have h68 := (h11.2 c12)
      have s70 := s7.rot2
      obtain ⟨I69, e69, s69, r69⟩ := OwnSl.freeze ((o1.mono e2).mono e7) s70
      obtain ⟨I71, e71, s71, r71⟩ := OwnSl.freeze (o9.mono e69) s69
      obtain ⟨V72, z72, b72, k72⟩ := h68
      refine wt_loop (fun n f w72 => ∃ (g : Fr) (I72 : Reg) (j72 : Nat) (A73 : Own) (v73 : Value) (l73 : List Ref42_Step), f = ov [(0, u0), (5, v1), (7, v9), (13, v73), (14, .int .i64 (j72 : Int))] g ∧ n = ahead9.length - j72 ∧ j72 ≤ ahead9.length ∧ Ext I71 w7 I72 w72 ∧ St I72 w72 (A73 ++ T) ∧ OwnSl I72 w72 A73 v73 l73 ∧ V72 j72 l73) _ ⟨_, _, 0, [], (.slice none 0 0), [], ov_self _ _ ⟨rfl, rfl, rfl, rfl, rfl, trivial⟩, rfl, Nat.zero_le _, Ext.refl _ _, s71.drop, OwnSl.nil, z72⟩ ?_
      rintro n f w72 ⟨g, I72, j72, A73, v73, l73, rfl, rfl, l72, e72, s72, o73, h72⟩ i72
      refine wt_seq (wt_seq (wt_region (o_mov (.int .i64 (j72 : Int)) rfl (o_mov v9 rfl (o_len' (e72.rep r71) rfl sl22 rfl (o_lssv rfl rfl (wl_nil (wt_condp rfl (fun q72 => ?_) (fun q72 => ?_)))))))))
      · have y72 := b72 _ (rng_lt q72) _ h72
        have q72n := rng_lt q72
        refine wt_skip (wt_seq (wt_block (wt_seq (wt_region (o_mov v9 rfl (o_mov (.int .i64 (j72 : Int)) rfl (v_il (j := j72) sl22 (e72.rep r71) rfl rfl rfl rfl ty3 y72 (fun q76 a76 v76 r76 h76 => ?_))))))))
        obtain ⟨rfl, g76⟩ := rint_in r76
        refine o_buildS (lc := [(0, #[.int .i64 (ahead9[j72])])]) (vs := #[.int .i64 (ahead9[j72]), .slice none 0 0]) bd42 ⟨_, Try.underlying42⟩ ⟨rfl, rfl, trivial⟩ rfl (o_allocO (z := .agg #[.int .i64 0, .slice none 0 0]) (cs := #[.int .i64 0, .slice none 0 0]) s72 zr42 rfl (fun bk15 w77 e77 s77 => ?_))
        refine o_storeB (vs := [.int .i64 (ahead9[j72]), .slice none 0 0]) ty42 s77 rfl rfl rfl rfl ⟨rfl, rfl, trivial⟩ (fun w78 e78 s78 => ?_)
        refine wl_nil (wt_seq (wt_seq (wt_region (o_assign (wl_nil (wt_block (?_)))))))
        obtain ⟨V79, z79, b79, k79⟩ := (h76 g76)
        refine wt_loop (fun n f w79 => ∃ (g : Fr) (I79 : Reg) (j79 : Nat) (A80 : Own) (v80 : Value) (x80 : List Int), f = ov [(0, u0), (5, v1), (7, v9), (13, v73), (14, .int .i64 (j72 : Int)), (15, .pointer (some ⟨bk15, 0, none⟩)), (16, .int .i64 (j79 : Int))] g ∧ n = x1.length - j79 ∧ j79 ≤ x1.length ∧ Ext I72 w78 I79 w79 ∧ St I79 w79 (A80 ++ ([(bk15, .cells #[.int .i64 (ahead9[j72]), v80] 42 (0, 0))] ++ (A73 ++ T))) ∧ OwnSl I79 w79 A80 v80 x80 ∧ V79 j79 x80) _ ⟨_, _, 0, [], (.slice none 0 0), [], ov_self _ _ ⟨rfl, rfl, rfl, rfl, rfl, rfl, rfl, trivial⟩, rfl, Nat.zero_le _, Ext.refl _ _, s78, OwnSl.nil, z79⟩ ?_
        rintro n f w79 ⟨g, I79, j79, A80, v80, x80, rfl, rfl, l79, e79, s79, o80, h79⟩ i79
        refine wt_seq (wt_seq (wt_region (o_mov (.int .i64 (j79 : Int)) rfl (o_mov v1 rfl (o_len' (e79.rep (e78.rep (e77.rep (e72.rep (e71.rep r69))))) rfl sl22 rfl (o_lssv rfl rfl (wl_nil (wt_condp rfl (fun q79 => ?_) (fun q79 => ?_)))))))))
        · have y79 := b79 _ (rng_lt q79) _ h79
          have q79n := rng_lt q79
          refine wt_skip (wt_seq (wt_block (wt_seq (wt_region (o_assign (wl_nil (wt_seq (wt_seq (wt_region (o_assign (wl_nil (wt_block (?_)))))))))))))
          obtain ⟨V83, z83, b83, k83⟩ := y79
          refine wt_loop (fun n f w83 => ∃ (g : Fr) (I83 : Reg) (j83 : Nat) (last84 : Int), f = ov [(0, u0), (5, v1), (7, v9), (13, v73), (14, .int .i64 (j72 : Int)), (15, .pointer (some ⟨bk15, 0, none⟩)), (16, .int .i64 (j79 : Int)), (17, .int .i64 last84), (18, .int .i64 (j83 : Int))] g ∧ n = ahead9.length - j83 ∧ j83 ≤ ahead9.length ∧ Ext I79 w79 I83 w83 ∧ St I83 w83 (A80 ++ ([(bk15, .cells #[.int .i64 (ahead9[j72]), v80] 42 (0, 0))] ++ (A73 ++ T))) ∧ InR last84 ∧ V83 j83 last84) _ ⟨_, _, 0, 0, ov_self _ _ ⟨rfl, rfl, rfl, rfl, rfl, rfl, rfl, rfl, rfl, trivial⟩, rfl, Nat.zero_le _, Ext.refl _ _, s79, (inr_lit (by decide) (by decide)), z83⟩ ?_
          rintro n f w83 ⟨g, I83, j83, last84, rfl, rfl, l83, e83, s83, g84, h83⟩ i83
          refine wt_seq (wt_seq (wt_region (o_mov (.int .i64 (j83 : Int)) rfl (o_mov v9 rfl (o_len' (e83.rep (e79.rep (e78.rep (e77.rep (e72.rep r71))))) rfl sl22 rfl (o_lssv rfl rfl (wl_nil (wt_condp rfl (fun q83 => ?_) (fun q83 => ?_)))))))))
          · have y83 := b83 _ (rng_lt q83) _ h83 g84
            have q83n := rng_lt q83
            refine wt_skip (wt_seq (wt_block (wt_seq (wt_drawS s83 mixed rfl (fun w86 e86 s86 => ?_)))))
            refine g_op (i := 0) rfl rfl rfl (by kernel_rfl) rfl ⟨_, e86⟩ (fun w' ⟨I', e'⟩ => o_mov u0 rfl ⟨rfl, rfl⟩) (g_op (i := 1) rfl rfl rfl (by kernel_rfl) rfl ⟨_, e86⟩ (fun w' ⟨I', e'⟩ => o_mov v9 rfl ⟨rfl, rfl⟩) (g_op (i := 2) rfl rfl rfl (by kernel_rfl) rfl ⟨_, e86⟩ (fun w' ⟨I', e'⟩ => o_mov (.int .i64 (j83 : Int)) rfl ⟨rfl, rfl⟩) (?_)))
            obtain ⟨q87, h87⟩ := y83
            obtain ⟨a87, v87, p87, b87, r87, x87⟩ := at_index (j := j83) sl22 (e83.rep (e79.rep (e78.rep (e77.rep (e72.rep r71))))) q87
            refine g_op (i := 3) rfl rfl rfl (by kernel_rfl) rfl ⟨_, e86⟩ (fun w' ⟨I', e'⟩ => o_ix x87 rfl rfl rfl ⟨rfl, rfl⟩) (?_)
            have r88 := r87
            obtain ⟨rfl, g88⟩ := rint_in r88
            refine g_op (i := 4) rfl rfl rfl (by kernel_rfl) rfl ⟨_, e86⟩ (fun w' ⟨I', e'⟩ => o_load ty3 (Points.mono e' b87 p87) (e'.rep r88) rfl ⟨rfl, rfl⟩) (?_)
            obtain ⟨q89, h89⟩ := (h87 g88).2
            obtain ⟨a89, v89, p89, b89, r89, x89⟩ := at_index (j := (Int.toNat (ahead9[j83]))) sl29 (e83.rep (e79.rep (e78.rep (e77.rep (e72.rep (e71.rep (e69.rep (e7.rep (e2.rep (e1.rep r_parts)))))))))) q89
            refine g_op (i := 5) rfl rfl rfl (by kernel_rfl) rfl ⟨_, e86⟩ (fun w' ⟨I', e'⟩ => o_ix x89 rfl rfl (Int.toNat_of_nonneg (h87 g88).1).symm ⟨rfl, rfl⟩) (?_)
            have r90 := r89
            refine g_op (i := 6) rfl rfl rfl (by kernel_rfl) rfl ⟨_, e86⟩ (fun w' ⟨I', e'⟩ => o_load ty22 (Points.mono e' b89 p89) (e'.rep r90) rfl ⟨rfl, rfl⟩) (g_op (i := 7) rfl rfl rfl (by kernel_rfl) rfl ⟨_, e86⟩ (fun w' ⟨I', e'⟩ => o_mov v1 rfl ⟨rfl, rfl⟩) (g_op (i := 8) rfl rfl rfl (by kernel_rfl) rfl ⟨_, e86⟩ (fun w' ⟨I', e'⟩ => o_mov (.int .i64 (j79 : Int)) rfl ⟨rfl, rfl⟩) (?_)))
            obtain ⟨q91, h91⟩ := h89
            obtain ⟨a91, v91, p91, b91, r91, x91⟩ := at_index (j := j79) sl22 (e83.rep (e79.rep (e78.rep (e77.rep (e72.rep (e71.rep r69)))))) q91
            refine g_op (i := 9) rfl rfl rfl (by kernel_rfl) rfl ⟨_, e86⟩ (fun w' ⟨I', e'⟩ => o_ix x91 rfl rfl rfl ⟨rfl, rfl⟩) (?_)
            have r92 := r91
            obtain ⟨rfl, g92⟩ := rint_in r92
            refine g_op (i := 10) rfl rfl rfl (by kernel_rfl) rfl ⟨_, e86⟩ (fun w' ⟨I', e'⟩ => o_load ty3 (Points.mono e' b91 p91) (e'.rep r92) rfl ⟨rfl, rfl⟩) (g_one (i := 11) rfl (by kernel_rfl) rfl (o_ret cc49 (Wp.c0 (h91 g92) ⟨_, _, rfl, (e86.rep r90), _, _, rfl, ⟨rfl, g92.1, g92.2⟩, rfl, rfl⟩ s86) rfl ?_))
            rintro v93 I93 w93 e93 ⟨A93, x93, s93, ⟨rfl, r93⟩, h93⟩
            replace s93 := s93.of_nil
            obtain rfl : _ = _ := r93
            refine wl_nil ⟨⟨_, (e86.trans e93)⟩, ?_⟩
            refine g_done (by kernel_rfl) (wt_cond rfl (fun c94 => ?_) (fun c94 => ?_))
            · refine wt_region (o_mov (.int .i64 (j83 : Int)) rfl (o_asg (.int .i64 (j83 : Int)) rfl (wl_nil (wt_inBlock (wt_region (o_mov (.int .i64 (j83 : Int)) rfl (o_addi rfl rfl (inr_succ0 q83n o9.bd) (o_asg (.int .i64 ((j83 : Int) + 1)) rfl (wl_nil (?_))))))))))
              exact i83.out _ _ _ (by omega) ⟨_, _, j83 + 1, (j83 : Int), ov_self _ _ ⟨rfl, rfl, rfl, rfl, rfl, rfl, rfl, rfl, rfl, trivial⟩, rfl, q83n, ((e83.trans e86).trans e93), s93, (inr_nat l83 o9.bd), (h93.1 c94)⟩
            · refine wt_skip (wt_inBlock (wt_region (o_mov (.int .i64 (j83 : Int)) rfl (o_addi rfl rfl (inr_succ0 q83n o9.bd) (o_asg (.int .i64 ((j83 : Int) + 1)) rfl (wl_nil (?_)))))))
              exact i83.out _ _ _ (by omega) ⟨_, _, j83 + 1, last84, ov_self _ _ ⟨rfl, rfl, rfl, rfl, rfl, rfl, rfl, rfl, rfl, trivial⟩, rfl, q83n, ((e83.trans e86).trans e93), s93, g84, (h93.2 c94)⟩
          · have y83 := k83 _ (rng_end (I := fun j => V83 j last84) l83 q83 h83) g84
            refine wt_exit rfl (wt_seq (wt_region (o_mov (.int .i64 last84) rfl (o_mov (.int .i64 (j72 : Int)) rfl (o_eqlv rfl rfl (wl_nil (wt_condp rfl (fun c95 => ?_) (fun c95 => ?_))))))))
            · have h96 := (y83.1 c95)
              obtain ⟨M97, k97, h97⟩ := h96
              refine wt_cut (fun f w97 => ∃ (g : Fr) (I97 : Reg) (A98 : Own) (v98 : Value) (x98 : List Int), f = ov [(0, u0), (5, v1), (7, v9), (13, v73), (14, .int .i64 (j72 : Int)), (15, .pointer (some ⟨bk15, 0, none⟩)), (16, .int .i64 (j79 : Int))] g ∧ Ext I83 w83 I97 w97 ∧ St I97 w97 (A98 ++ ([(bk15, .cells #[.int .i64 (ahead9[j72]), v98] 42 (0, 0))] ++ (A73 ++ T))) ∧ OwnSl I97 w97 A98 v98 x98 ∧ M97 x98) ?_ ?_
              · rintro f w97 ⟨g, I97, A98, v98, x98, rfl, e97, s97, o98, y97⟩
                have y97 := k97 _ y97
                refine wt_inBlock (wt_region (o_mov (.int .i64 (j79 : Int)) rfl (o_addi rfl rfl (inr_succ0 q79n o1.bd) (o_asg (.int .i64 ((j79 : Int) + 1)) rfl (wl_nil (?_))))))
                exact i79.out _ _ _ (by omega) ⟨_, _, j79 + 1, A98, v98, x98, ov_self _ _ ⟨rfl, rfl, rfl, rfl, rfl, rfl, rfl, trivial⟩, rfl, q79n, ((e79.trans e83).trans e97), s97, o98, y97⟩
              · intro j97
                refine wt_drawS s83 mixed rfl (fun w99 e99 s99 => ?_)
                refine g_op (i := 0) rfl rfl rfl (by kernel_rfl) rfl ⟨_, e99⟩ (fun w' ⟨I', e'⟩ => o_fieldO fl42_1 rfl ⟨rfl, rfl⟩) (g_op (i := 2) rfl rfl rfl (by kernel_rfl) rfl ⟨_, e99⟩ (fun w' ⟨I', e'⟩ => o_mov v1 rfl ⟨rfl, rfl⟩) (g_op (i := 3) rfl rfl rfl (by kernel_rfl) rfl ⟨_, e99⟩ (fun w' ⟨I', e'⟩ => o_mov (.int .i64 (j79 : Int)) rfl ⟨rfl, rfl⟩) (?_)))
                obtain ⟨q100, h100⟩ := h97
                obtain ⟨a100, v100, p100, b100, r100, x100⟩ := at_index (j := j79) sl22 (e83.rep (e79.rep (e78.rep (e77.rep (e72.rep (e71.rep r69)))))) q100
                refine g_op (i := 4) rfl rfl rfl (by kernel_rfl) rfl ⟨_, e99⟩ (fun w' ⟨I', e'⟩ => o_ix x100 rfl rfl rfl ⟨rfl, rfl⟩) (?_)
                have r101 := r100
                obtain ⟨rfl, g101⟩ := rint_in r101
                refine g_op (i := 5) rfl rfl rfl (by kernel_rfl) rfl ⟨_, e99⟩ (fun w' ⟨I', e'⟩ => o_load ty3 (Points.mono e' b100 p100) (e'.rep r101) rfl ⟨rfl, rfl⟩) (g_two (i := 1) (i' := 6) rfl rfl (by kernel_rfl) rfl rfl ?_ ?_)
                · have s102 := s99.rot1
                  refine o_loadO (v := v80) ty22 s102 rfl rfl (wl_nil ⟨⟨_, e99⟩, ?_⟩)
                  refine g_one (i := 6) rfl (by kernel_rfl) rfl (o_buildI (xs := ([(x1[j79])] : List Int)) (vs := [.int .i64 (x1[j79])]) sl22 s102 rfl ⟨⟨rfl, g101.1, g101.2⟩, trivial⟩ rfl rfl (fun v103 I103 w103 e103 s103 r103 => ?_))
                  refine wl_nil ⟨⟨_, (e99.trans e103)⟩, ?_⟩
                  refine g_one (i := 7) rfl (by kernel_rfl) rfl (?_)
                  have s105 := s103.rot1
                  have h106 := (h100 g101)
                  refine o_append sl22 s105 (((o80.mono e83).mono e99).mono e103) r103 rfl rfl h106.1 (app_le h106.1) (fun v104 A104 w104 e104 s104 o104 => ?_)
                  refine wl_nil ⟨⟨_, ((e99.trans e103).trans e104)⟩, ?_⟩
                  refine g_op (i := 8) rfl rfl rfl (by kernel_rfl) rfl ⟨_, ((e99.trans e103).trans e104)⟩ (fun w' ⟨I', e'⟩ => o_fieldO fl42_1 rfl ⟨rfl, rfl⟩) (g_one (i := 9) rfl (by kernel_rfl) rfl (?_))
                  have s108 := s104.rot1
                  refine o_storeX (cs' := #[.int .i64 (ahead9[j72]), v104]) ty22 s108 rfl rfl o104.one rfl rfl (fun w107 e107 s107 => ?_)
                  refine wl_nil ⟨⟨_, (((e99.trans e103).trans e104).trans e107)⟩, ?_⟩
                  refine g_done (by kernel_rfl) (?_)
                  have s109 := s107.rot1
                  exact j97 _ _ ⟨_, _, A104, v104, (x80 ++ ([(x1[j79])] : List Int)), ov_self _ _ ⟨rfl, rfl, rfl, rfl, rfl, rfl, rfl, trivial⟩, (((e99.trans e103).trans e104).trans e107), s109, (o104.mono e107), h106.2⟩
                · refine o_buildI (xs := ([(x1[j79])] : List Int)) (vs := [.int .i64 (x1[j79])]) sl22 s99 rfl ⟨⟨rfl, g101.1, g101.2⟩, trivial⟩ rfl rfl (fun v110 I110 w110 e110 s110 r110 => ?_)
                  refine wl_nil ⟨⟨_, (e99.trans e110)⟩, ?_⟩
                  refine g_one (i := 1) rfl (by kernel_rfl) rfl (?_)
                  have s111 := s110.rot1
                  refine o_loadO (v := v80) ty22 s111 rfl rfl (wl_nil ⟨⟨_, (e99.trans e110)⟩, ?_⟩)
                  refine g_one (i := 7) rfl (by kernel_rfl) rfl (?_)
                  have s113 := s111.rot1
                  have h114 := (h100 g101)
                  refine o_append sl22 s113 (((o80.mono e83).mono e99).mono e110) r110 rfl rfl h114.1 (app_le h114.1) (fun v112 A112 w112 e112 s112 o112 => ?_)
                  refine wl_nil ⟨⟨_, ((e99.trans e110).trans e112)⟩, ?_⟩
                  refine g_op (i := 8) rfl rfl rfl (by kernel_rfl) rfl ⟨_, ((e99.trans e110).trans e112)⟩ (fun w' ⟨I', e'⟩ => o_fieldO fl42_1 rfl ⟨rfl, rfl⟩) (g_one (i := 9) rfl (by kernel_rfl) rfl (?_))
                  have s116 := s112.rot1
                  refine o_storeX (cs' := #[.int .i64 (ahead9[j72]), v112]) ty22 s116 rfl rfl o112.one rfl rfl (fun w115 e115 s115 => ?_)
                  refine wl_nil ⟨⟨_, (((e99.trans e110).trans e112).trans e115)⟩, ?_⟩
                  refine g_done (by kernel_rfl) (?_)
                  have s117 := s115.rot1
                  exact j97 _ _ ⟨_, _, A112, v112, (x80 ++ ([(x1[j79])] : List Int)), ov_self _ _ ⟨rfl, rfl, rfl, rfl, rfl, rfl, rfl, trivial⟩, (((e99.trans e110).trans e112).trans e115), s117, (o112.mono e115), h114.2⟩
            · refine wt_skip (wt_inBlock (wt_region (o_mov (.int .i64 (j79 : Int)) rfl (o_addi rfl rfl (inr_succ0 q79n o1.bd) (o_asg (.int .i64 ((j79 : Int) + 1)) rfl (wl_nil (?_)))))))
              exact i79.out _ _ _ (by omega) ⟨_, _, j79 + 1, A80, v80, x80, ov_self _ _ ⟨rfl, rfl, rfl, rfl, rfl, rfl, rfl, trivial⟩, rfl, q79n, (e79.trans e83), s83, (o80.mono e83), (y83.2 c95)⟩
        · have y79 := k79 _ (rng_end (I := fun j => V79 j x80) l79 q79 h79)
          refine wt_exit rfl (wt_region (o_mov v73 rfl (?_)))
          obtain ⟨I118, e118, s118, r118⟩ := OwnSl.freeze o80 s79
          refine o_loadA (vs := [.int .i64 (ahead9[j72]), v80]) ty42 s118 rfl rfl rfl (?_)
          have s120 := s118.rot1
          refine v_app1 sl38 rfl rfl rfl s120 ((((o73.mono e77).mono e78).mono e79).mono e118) (mk_Ref42_Step ⟨rfl, g76.1, g76.2⟩ r118) rfl rfl y79 rfl (fun u119 v119 A119 I119 w119 e119 s119 o119 l119 h119 => ?_)
          refine o_asg v119 rfl (wl_nil (wt_inBlock (wt_region (o_mov (.int .i64 (j72 : Int)) rfl (o_addi rfl rfl (inr_succ0 q72n o9.bd) (o_asg (.int .i64 ((j72 : Int) + 1)) rfl (wl_nil (?_))))))))
          have s121 := s119.rot1
          exact i72.out _ _ _ (by omega) ⟨_, _, j72 + 1, A119, v119, (l73 ++ [(⟨(ahead9[j72]), x80⟩ : Ref42_Step)]), ov_self _ _ ⟨rfl, rfl, rfl, rfl, rfl, trivial⟩, rfl, q72n, (((((e72.trans e77).trans e78).trans e79).trans e118).trans e119), s121.drop, o119, h119⟩
      · have y72 := k72 _ (rng_end (I := fun j => V72 j l73) l72 q72 h72)
        refine wt_exit rfl (wt_seq (wt_region (o_mov v73 rfl (o_asg v73 rfl (wl_nil (?_))))))
        exact ret_one Try.func30 rfl rfl (((((e1.trans e2).trans e7).trans e69).trans e71).trans e72) ⟨A73, _, s72, o73, y72⟩

def law42_same  (a : List Int) (b : List Int) (Q : Bool → Prop) : Prop := Wp Try.prog 31 (sD (sD sN)) (a, b, ()) rD Q
def law42_same_v  (a : List Int) (b : List Int) (Q : Bool → Prop) : Prop := (a.length ≤ 9223372036854775807 → (b.length ≤ 9223372036854775807 → ((¬((a.length : Int) = (b.length : Int)) → Q false) ∧ (((a.length : Int) = (b.length : Int)) → (a.length ≤ 9223372036854775807 → Rng0 a.length (fun j4 q4 V4 => (∃ q7 : j4 < a.length, (InR (a[j4]) → (∃ q9 : j4 < b.length, (InR (b[j4]) → ((¬((a[j4]) = (b[j4])) → Q false) ∧ (((a[j4]) = (b[j4])) → V4))))))) (Q true))))))
theorem law42_same_w  {a : List Int} {b : List Int} {Q : Bool → Prop} (h : law42_same_v a b Q) : law42_same a b Q := by
  rintro I w T A vs ⟨u0, _, rfl, (r_a : rep I w u0 a), u1, _, rfl, (r_b : rep I w u1 b), rfl, rfl⟩ s0
  refine ret_of_wt Try.func31 rfl Try.ntmps31 rfl ?_
  refine wt_seq (wt_region (o_assign (wl_nil (wt_seq (wt_seq (wt_region (o_mov u0 rfl (o_len' r_a rfl sl22 rfl (o_mov u1 rfl (o_len' r_b rfl sl22 rfl (o_nev rfl rfl (wl_nil (?_)))))))))))))
  have h1 := ((h (rep_len r_a)) (rep_len r_b))
  refine wt_condn rfl (fun c2 => ?_) (fun c2 => ?_)
  · refine wt_seq (wt_region (o_assign (wl_nil (?_))))
    exact ret_one Try.func31 rfl rfl (Ext.refl _ _) ⟨[], _, s0, ⟨rfl, rfl⟩, (h1.1 c2)⟩
  · refine wt_skip (wt_seq (wt_seq (wt_region (o_mov u0 rfl (o_len' r_a rfl sl22 rfl (o_move (wl_nil (wt_block (?_)))))))))
    have h3 := ((h1.2 c2) (rep_len r_a))
    obtain ⟨V4, z4, b4, k4⟩ := h3
    refine wt_loop (fun n f w4 => ∃ (g : Fr) (I4 : Reg) (j4 : Nat) , f = ov [(0, u0), (1, u1), (12, .int .i64 (a.length : Int)), (13, .int .i64 (j4 : Int))] g ∧ n = a.length - j4 ∧ j4 ≤ a.length ∧ Ext I w I4 w4 ∧ St I4 w4 T ∧ V4 j4 ) _ ⟨_, _, 0, ov_self _ _ ⟨rfl, rfl, rfl, rfl, trivial⟩, rfl, Nat.zero_le _, Ext.refl _ _, s0, z4⟩ ?_
    rintro n f w4 ⟨g, I4, j4, rfl, rfl, l4, e4, s4, h4⟩ i4
    refine wt_seq (wt_region (o_lssv rfl rfl (wl_nil (wt_seq (wt_condp rfl (fun q4 => ?_) (fun q4 => ?_))))))
    · have y4 := b4 _ (rng_lt q4) h4
      have q4n := rng_lt q4
      refine wt_skip (wt_seq (wt_block (wt_seq (wt_region (o_mov (.int .i64 (j4 : Int)) rfl (o_asg (.int .i64 (j4 : Int)) rfl (wl_nil (wt_seq (wt_drawS s4 mixed rfl (fun w6 e6 s6 => ?_))))))))))
      refine g_op (i := 0) rfl rfl rfl (by kernel_rfl) rfl ⟨_, e6⟩ (fun w' ⟨I', e'⟩ => o_mov u0 rfl ⟨rfl, rfl⟩) (g_op (i := 1) rfl rfl rfl (by kernel_rfl) rfl ⟨_, e6⟩ (fun w' ⟨I', e'⟩ => o_mov (.int .i64 (j4 : Int)) rfl ⟨rfl, rfl⟩) (?_))
      obtain ⟨q7, h7⟩ := y4
      obtain ⟨a7, v7, p7, b7, r7, x7⟩ := at_index (j := j4) sl22 (e4.rep r_a) q7
      refine g_op (i := 2) rfl rfl rfl (by kernel_rfl) rfl ⟨_, e6⟩ (fun w' ⟨I', e'⟩ => o_ix x7 rfl rfl rfl ⟨rfl, rfl⟩) (?_)
      have r8 := r7
      obtain ⟨rfl, g8⟩ := rint_in r8
      refine g_op (i := 3) rfl rfl rfl (by kernel_rfl) rfl ⟨_, e6⟩ (fun w' ⟨I', e'⟩ => o_load ty3 (Points.mono e' b7 p7) (e'.rep r8) rfl ⟨rfl, rfl⟩) (g_op (i := 4) rfl rfl rfl (by kernel_rfl) rfl ⟨_, e6⟩ (fun w' ⟨I', e'⟩ => o_mov u1 rfl ⟨rfl, rfl⟩) (g_op (i := 5) rfl rfl rfl (by kernel_rfl) rfl ⟨_, e6⟩ (fun w' ⟨I', e'⟩ => o_mov (.int .i64 (j4 : Int)) rfl ⟨rfl, rfl⟩) (?_)))
      obtain ⟨q9, h9⟩ := (h7 g8)
      obtain ⟨a9, v9, p9, b9, r9, x9⟩ := at_index (j := j4) sl22 (e4.rep r_b) q9
      refine g_op (i := 6) rfl rfl rfl (by kernel_rfl) rfl ⟨_, e6⟩ (fun w' ⟨I', e'⟩ => o_ix x9 rfl rfl rfl ⟨rfl, rfl⟩) (?_)
      have r10 := r9
      obtain ⟨rfl, g10⟩ := rint_in r10
      refine g_op (i := 7) rfl rfl rfl (by kernel_rfl) rfl ⟨_, e6⟩ (fun w' ⟨I', e'⟩ => o_load ty3 (Points.mono e' b9 p9) (e'.rep r10) rfl ⟨rfl, rfl⟩) (g_op (i := 8) rfl rfl rfl (by kernel_rfl) rfl ⟨_, e6⟩ (fun w' ⟨I', e'⟩ => o_nev rfl rfl ⟨rfl, rfl⟩) (g_done (by kernel_rfl) (wt_condn rfl (fun c11 => ?_) (fun c11 => ?_))))
      · refine wt_seq (wt_region (o_assign (wl_nil (?_))))
        exact ret_one Try.func31 rfl rfl (e4.trans e6) ⟨[], _, s6, ⟨rfl, rfl⟩, ((h9 g10).1 c11)⟩
      · refine wt_skip (wt_inBlock (wt_region (o_addi rfl rfl (inr_succ0 q4n (rep_len r_a)) (o_mov (.int .i64 ((j4 : Int) + 1)) rfl (wl_nil (?_))))))
        exact i4.out _ _ _ (by omega) ⟨_, _, j4 + 1, ov_self _ _ ⟨rfl, rfl, rfl, rfl, trivial⟩, rfl, q4n, (e4.trans e6), s6, ((h9 g10).2 c11)⟩
    · have y4 := k4 (rng_end (I := fun j => V4 j ) l4 q4 h4)
      refine wt_exit rfl (wt_seq (wt_region (o_assign (wl_nil (?_)))))
      exact ret_one Try.func31 rfl rfl e4 ⟨[], _, s4, ⟨rfl, rfl⟩, y4⟩

def law42_SchedPlans  (parts : List (List Int)) (out : List Int) (Q : Bool → Prop) : Prop := Wp Try.prog 7 (sD (sD sN)) (parts, out, ()) rD Q
def law42_SchedPlans_v  (parts : List (List Int)) (out : List Int) (Q : Bool → Prop) : Prop := law42_few parts out ([] : List Ref42_Step) (fun (x1 : Bool) => (((!x1) = true → law42_lives  (fun (x3 : Bool) => Q x3)) ∧ ((!x1) = false → sched_Plan parts out (fun (x4 : List Sched_Step) => ref42_Plan parts out (fun (x5 : List Ref42_Step) => (x4.length ≤ 9223372036854775807 → (x5.length ≤ 9223372036854775807 → ((¬((x4.length : Int) = (x5.length : Int)) → Q false) ∧ (((x4.length : Int) = (x5.length : Int)) → (x4.length ≤ 9223372036854775807 → Rng0 x4.length (fun j12 q12 V12 => (∃ q15 : j12 < x4.length, (InR ((x4[j12]).Part) → (∃ q18 : j12 < x5.length, (InR ((x5[j12]).Part) → ((¬(((x4[j12]).Part) = ((x5[j12]).Part)) → Q false) ∧ ((((x4[j12]).Part) = ((x5[j12]).Part)) → (∃ q22 : j12 < x4.length, (∃ q25 : j12 < x5.length, law42_same ((x4[j12]).Out) ((x5[j12]).Out) (fun (x28 : Bool) => (((!x28) = true → Q false) ∧ ((!x28) = false → V12)))))))))))) (law42_lives  (fun (x30 : Bool) => Q x30))))))))))))
set_option maxHeartbeats 4000000 in
theorem law42_SchedPlans_w  {parts : List (List Int)} {out : List Int} {Q : Bool → Prop} (h : law42_SchedPlans_v parts out Q) : law42_SchedPlans parts out Q := by
  rintro I w T A vs ⟨u0, _, rfl, (r_parts : rep I w u0 parts), u1, _, rfl, (r_out : rep I w u1 out), rfl, rfl⟩ s0
  refine ret_of_wt Try.func7 rfl Try.ntmps7 rfl ?_
  refine wt_seq (wt_region (o_assign (wl_nil (wt_seq (wt_seq (wt_region (o_mov u0 rfl (o_mov u1 rfl (o_ret cc27 (Wp.c0 h ⟨_, _, rfl, r_parts, _, _, rfl, r_out, _, _, rfl, (rep_nil (by decide)), rfl, rfl⟩ s0) rfl ?_)))))))))
  rintro v1 I1 w1 e1 ⟨A1, x1, s1, ⟨rfl, r1⟩, h1⟩
  replace s1 := s1.of_nil
  obtain rfl : _ = _ := r1
  refine o_not rfl (wl_nil (wt_cond rfl (fun c2 => ?_) (fun c2 => ?_)))
  · refine wt_seq (wt_region (o_ret cc28 (Wp.c0 (h1.1 c2) ⟨rfl, rfl⟩ s1) rfl ?_))
    rintro v3 I3 w3 e3 ⟨A3, x3, s3, ⟨rfl, r3⟩, h3⟩
    replace s3 := s3.of_nil
    obtain rfl : _ = _ := r3
    refine o_asg (.bool x3) rfl (wl_nil (?_))
    exact ret_one Try.func7 rfl rfl (e1.trans e3) ⟨[], _, s3, ⟨rfl, rfl⟩, h3⟩
  · refine wt_skip (wt_seq (wt_region (o_mov u0 rfl (o_mov u1 rfl (o_ret cc29 (Wp.c0 (h1.2 c2) ⟨_, _, rfl, (e1.rep r_parts), _, _, rfl, (e1.rep r_out), rfl, rfl⟩ s1) rfl ?_)))))
    rintro v4 I4 w4 e4 ⟨A4, x4, s4, o4, h4⟩
    refine o_mov u0 rfl (o_mov u1 rfl (o_ret cc30 (Wp.c0 h4 ⟨_, _, rfl, (e4.rep (e1.rep r_parts)), _, _, rfl, (e4.rep (e1.rep r_out)), rfl, rfl⟩ s4) rfl ?_))
    rintro v5 I5 w5 e5 ⟨A5, x5, s5, o5, h5⟩
    refine o_asg v4 rfl (o_asg v5 rfl (wl_nil (wt_seq (wt_seq (wt_region (o_mov v4 rfl (o_lenO (o4.mono e5) rfl sl36 rfl (o_mov v5 rfl (o_lenO o5 rfl sl38 rfl (o_nev rfl rfl (wl_nil (?_))))))))))))
    have h6 := ((h5 o4.bd) o5.bd)
    refine wt_condn rfl (fun c7 => ?_) (fun c7 => ?_)
    · refine wt_seq (wt_region (o_assign (wl_nil (?_))))
      exact ret_one Try.func7 rfl rfl ((e1.trans e4).trans e5) ⟨[], _, s5.drop.drop, ⟨rfl, rfl⟩, (h6.1 c7)⟩
    · refine wt_skip (wt_seq (wt_seq (wt_region (o_mov v4 rfl (o_lenO (o4.mono e5) rfl sl36 rfl (o_move (wl_nil (wt_block (?_)))))))))
      have h8 := ((h6.2 c7) o4.bd)
      have s10 := s5.rot1
      obtain ⟨I9, e9, s9, r9⟩ := OwnSl.freeze (o4.mono e5) s10
      obtain ⟨I11, e11, s11, r11⟩ := OwnSl.freeze (o5.mono e9) s9
      obtain ⟨V12, z12, b12, k12⟩ := h8
      refine wt_loop (fun n f w12 => ∃ (g : Fr) (I12 : Reg) (j12 : Nat) , f = ov [(5, v4), (6, v5), (25, .int .i64 (x4.length : Int)), (26, .int .i64 (j12 : Int))] g ∧ n = x4.length - j12 ∧ j12 ≤ x4.length ∧ Ext I11 w5 I12 w12 ∧ St I12 w12 T ∧ V12 j12 ) _ ⟨_, _, 0, ov_self _ _ ⟨rfl, rfl, rfl, rfl, trivial⟩, rfl, Nat.zero_le _, Ext.refl _ _, s11, z12⟩ ?_
      rintro n f w12 ⟨g, I12, j12, rfl, rfl, l12, e12, s12, h12⟩ i12
      refine wt_seq (wt_region (o_lssv rfl rfl (wl_nil (wt_seq (wt_condp rfl (fun q12 => ?_) (fun q12 => ?_))))))
      · have y12 := b12 _ (rng_lt q12) h12
        have q12n := rng_lt q12
        refine wt_skip (wt_seq (wt_block (wt_seq (wt_region (o_mov (.int .i64 (j12 : Int)) rfl (o_asg (.int .i64 (j12 : Int)) rfl (wl_nil (wt_seq (wt_drawS s12 mixed rfl (fun w14 e14 s14 => ?_))))))))))
        refine g_op (i := 0) rfl rfl rfl (by kernel_rfl) rfl ⟨_, e14⟩ (fun w' ⟨I', e'⟩ => o_mov v4 rfl ⟨rfl, rfl⟩) (g_op (i := 1) rfl rfl rfl (by kernel_rfl) rfl ⟨_, e14⟩ (fun w' ⟨I', e'⟩ => o_mov (.int .i64 (j12 : Int)) rfl ⟨rfl, rfl⟩) (?_))
        obtain ⟨q15, h15⟩ := y12
        obtain ⟨a15, v15, p15, b15, r15, x15⟩ := at_index (j := j12) sl36 (e12.rep (e11.rep r9)) q15
        refine g_op (i := 2) rfl rfl rfl (by kernel_rfl) rfl ⟨_, e14⟩ (fun w' ⟨I', e'⟩ => o_ix x15 rfl rfl rfl ⟨rfl, rfl⟩) (?_)
        obtain ⟨v16, r16, p16, q16⟩ := Points.field fld_Sched_Step_0 p15 r15
        have b16 := blk_of q16 b15
        refine g_op (i := 3) rfl rfl rfl (by kernel_rfl) rfl ⟨_, e14⟩ (fun w' ⟨I', e'⟩ => o_fl fl41_0 rfl ⟨rfl, rfl⟩) (?_)
        have r17 := r16
        obtain ⟨rfl, g17⟩ := rint_in r17
        refine g_op (i := 4) rfl rfl rfl (by kernel_rfl) rfl ⟨_, e14⟩ (fun w' ⟨I', e'⟩ => o_load ty3 (Points.mono e' b16 p16) (e'.rep r17) rfl ⟨rfl, rfl⟩) (g_op (i := 5) rfl rfl rfl (by kernel_rfl) rfl ⟨_, e14⟩ (fun w' ⟨I', e'⟩ => o_mov v5 rfl ⟨rfl, rfl⟩) (g_op (i := 6) rfl rfl rfl (by kernel_rfl) rfl ⟨_, e14⟩ (fun w' ⟨I', e'⟩ => o_mov (.int .i64 (j12 : Int)) rfl ⟨rfl, rfl⟩) (?_)))
        obtain ⟨q18, h18⟩ := (h15 g17)
        obtain ⟨a18, v18, p18, b18, r18, x18⟩ := at_index (j := j12) sl38 (e12.rep r11) q18
        refine g_op (i := 7) rfl rfl rfl (by kernel_rfl) rfl ⟨_, e14⟩ (fun w' ⟨I', e'⟩ => o_ix x18 rfl rfl rfl ⟨rfl, rfl⟩) (?_)
        obtain ⟨v19, r19, p19, q19⟩ := Points.field fld_Ref42_Step_0 p18 r18
        have b19 := blk_of q19 b18
        refine g_op (i := 8) rfl rfl rfl (by kernel_rfl) rfl ⟨_, e14⟩ (fun w' ⟨I', e'⟩ => o_fl fl42_0 rfl ⟨rfl, rfl⟩) (?_)
        have r20 := r19
        obtain ⟨rfl, g20⟩ := rint_in r20
        refine g_op (i := 9) rfl rfl rfl (by kernel_rfl) rfl ⟨_, e14⟩ (fun w' ⟨I', e'⟩ => o_load ty3 (Points.mono e' b19 p19) (e'.rep r20) rfl ⟨rfl, rfl⟩) (g_op (i := 10) rfl rfl rfl (by kernel_rfl) rfl ⟨_, e14⟩ (fun w' ⟨I', e'⟩ => o_nev rfl rfl ⟨rfl, rfl⟩) (g_op (i := 11) rfl rfl rfl (by kernel_rfl) rfl ⟨_, e14⟩ (fun w' ⟨I', e'⟩ => o_mov (.bool (decide (¬(((x4[j12]).Part) = ((x5[j12]).Part))))) rfl ⟨rfl, rfl⟩) (wg_casen (d := 40) rfl rfl (fun c21 => ?_) (fun c21 => ?_))))
        · refine g_op (i := 12) rfl rfl rfl (by kernel_rfl) rfl ⟨_, e14⟩ (fun w' ⟨I', e'⟩ => wl_no rfl ⟨rfl, rfl⟩) (g_op (i := 13) rfl rfl rfl (by kernel_rfl) rfl ⟨_, e14⟩ (fun w' ⟨I', e'⟩ => wl_no rfl ⟨rfl, rfl⟩) (g_op (i := 14) rfl rfl rfl (by kernel_rfl) rfl ⟨_, e14⟩ (fun w' ⟨I', e'⟩ => wl_no rfl ⟨rfl, rfl⟩) (g_op (i := 15) rfl rfl rfl (by kernel_rfl) rfl ⟨_, e14⟩ (fun w' ⟨I', e'⟩ => wl_no rfl ⟨rfl, rfl⟩) (g_op (i := 16) rfl rfl rfl (by kernel_rfl) rfl ⟨_, e14⟩ (fun w' ⟨I', e'⟩ => wl_no rfl ⟨rfl, rfl⟩) (g_op (i := 17) rfl rfl rfl (by kernel_rfl) rfl ⟨_, e14⟩ (fun w' ⟨I', e'⟩ => wl_no rfl ⟨rfl, rfl⟩) (g_op (i := 18) rfl rfl rfl (by kernel_rfl) rfl ⟨_, e14⟩ (fun w' ⟨I', e'⟩ => wl_no rfl ⟨rfl, rfl⟩) (g_op (i := 19) rfl rfl rfl (by kernel_rfl) rfl ⟨_, e14⟩ (fun w' ⟨I', e'⟩ => wl_no rfl ⟨rfl, rfl⟩) (g_op (i := 20) rfl rfl rfl (by kernel_rfl) rfl ⟨_, e14⟩ (fun w' ⟨I', e'⟩ => wl_no rfl ⟨rfl, rfl⟩) (g_op (i := 21) rfl rfl rfl (by kernel_rfl) rfl ⟨_, e14⟩ (fun w' ⟨I', e'⟩ => wl_no rfl ⟨rfl, rfl⟩) (g_op (i := 22) rfl rfl rfl (by kernel_rfl) rfl ⟨_, e14⟩ (fun w' ⟨I', e'⟩ => wl_no rfl ⟨rfl, rfl⟩) (g_op (i := 23) rfl rfl rfl (by kernel_rfl) rfl ⟨_, e14⟩ (fun w' ⟨I', e'⟩ => wl_no rfl ⟨rfl, rfl⟩) (g_op (i := 24) rfl rfl rfl (by kernel_rfl) rfl ⟨_, e14⟩ (fun w' ⟨I', e'⟩ => o_pick1 rfl ⟨rfl, rfl⟩) (g_done (by kernel_rfl) (wt_true rfl (wt_seq (wt_region (o_assign (wl_nil (?_)))))))))))))))))))
          exact ret_one Try.func7 rfl rfl ((((((e1.trans e4).trans e5).trans e9).trans e11).trans e12).trans e14) ⟨[], _, s14, ⟨rfl, rfl⟩, ((h18 g20).1 c21)⟩
        · refine g_op (i := 12) rfl rfl rfl (by kernel_rfl) rfl ⟨_, e14⟩ (fun w' ⟨I', e'⟩ => wl_yes rfl (o_mov v4 rfl ⟨rfl, rfl⟩)) (g_op (i := 13) rfl rfl rfl (by kernel_rfl) rfl ⟨_, e14⟩ (fun w' ⟨I', e'⟩ => wl_yes rfl (o_mov (.int .i64 (j12 : Int)) rfl ⟨rfl, rfl⟩)) (?_))
          obtain ⟨q22, h22⟩ := ((h18 g20).2 c21)
          obtain ⟨a22, v22, p22, b22, r22, x22⟩ := at_index (j := j12) sl36 (e12.rep (e11.rep r9)) q22
          refine g_op (i := 14) rfl rfl rfl (by kernel_rfl) rfl ⟨_, e14⟩ (fun w' ⟨I', e'⟩ => wl_yes rfl (o_ix x22 rfl rfl rfl ⟨rfl, rfl⟩)) (?_)
          obtain ⟨v23, r23, p23, q23⟩ := Points.field fld_Sched_Step_1 p22 r22
          have b23 := blk_of q23 b22
          refine g_op (i := 15) rfl rfl rfl (by kernel_rfl) rfl ⟨_, e14⟩ (fun w' ⟨I', e'⟩ => wl_yes rfl (o_fl fl41_1 rfl ⟨rfl, rfl⟩)) (?_)
          have r24 := r23
          refine g_op (i := 16) rfl rfl rfl (by kernel_rfl) rfl ⟨_, e14⟩ (fun w' ⟨I', e'⟩ => wl_yes rfl (o_load ty22 (Points.mono e' b23 p23) (e'.rep r24) rfl ⟨rfl, rfl⟩)) (g_op (i := 17) rfl rfl rfl (by kernel_rfl) rfl ⟨_, e14⟩ (fun w' ⟨I', e'⟩ => wl_yes rfl (o_mov v5 rfl ⟨rfl, rfl⟩)) (g_op (i := 18) rfl rfl rfl (by kernel_rfl) rfl ⟨_, e14⟩ (fun w' ⟨I', e'⟩ => wl_yes rfl (o_mov (.int .i64 (j12 : Int)) rfl ⟨rfl, rfl⟩)) (?_)))
          obtain ⟨q25, h25⟩ := h22
          obtain ⟨a25, v25, p25, b25, r25, x25⟩ := at_index (j := j12) sl38 (e12.rep r11) q25
          refine g_op (i := 19) rfl rfl rfl (by kernel_rfl) rfl ⟨_, e14⟩ (fun w' ⟨I', e'⟩ => wl_yes rfl (o_ix x25 rfl rfl rfl ⟨rfl, rfl⟩)) (?_)
          obtain ⟨v26, r26, p26, q26⟩ := Points.field fld_Ref42_Step_1 p25 r25
          have b26 := blk_of q26 b25
          refine g_op (i := 20) rfl rfl rfl (by kernel_rfl) rfl ⟨_, e14⟩ (fun w' ⟨I', e'⟩ => wl_yes rfl (o_fl fl42_1 rfl ⟨rfl, rfl⟩)) (?_)
          have r27 := r26
          refine g_op (i := 21) rfl rfl rfl (by kernel_rfl) rfl ⟨_, e14⟩ (fun w' ⟨I', e'⟩ => wl_yes rfl (o_load ty22 (Points.mono e' b26 p26) (e'.rep r27) rfl ⟨rfl, rfl⟩)) (g_one (i := 22) rfl (by kernel_rfl) rfl (wl_yes rfl (o_ret cc31 (Wp.c0 h25 ⟨_, _, rfl, (e14.rep r24), _, _, rfl, (e14.rep r27), rfl, rfl⟩ s14) rfl ?_)))
          rintro v28 I28 w28 e28 ⟨A28, x28, s28, ⟨rfl, r28⟩, h28⟩
          replace s28 := s28.of_nil
          obtain rfl : _ = _ := r28
          refine wl_nil ⟨⟨_, (e14.trans e28)⟩, ?_⟩
          refine g_op (i := 23) rfl rfl rfl (by kernel_rfl) rfl ⟨_, (e14.trans e28)⟩ (fun w' ⟨I', e'⟩ => wl_yes rfl (o_not rfl ⟨rfl, rfl⟩)) (g_op (i := 24) rfl rfl rfl (by kernel_rfl) rfl ⟨_, (e14.trans e28)⟩ (fun w' ⟨I', e'⟩ => o_pickf (.bool (!x28)) rfl rfl ⟨rfl, rfl⟩) (g_done (by kernel_rfl) (wt_cond rfl (fun c29 => ?_) (fun c29 => ?_))))
          · refine wt_seq (wt_region (o_assign (wl_nil (?_))))
            exact ret_one Try.func7 rfl rfl (((((((e1.trans e4).trans e5).trans e9).trans e11).trans e12).trans e14).trans e28) ⟨[], _, s28, ⟨rfl, rfl⟩, (h28.1 c29)⟩
          · refine wt_skip (wt_inBlock (wt_region (o_addi rfl rfl (inr_succ0 q12n o4.bd) (o_mov (.int .i64 ((j12 : Int) + 1)) rfl (wl_nil (?_))))))
            exact i12.out _ _ _ (by omega) ⟨_, _, j12 + 1, ov_self _ _ ⟨rfl, rfl, rfl, rfl, trivial⟩, rfl, q12n, ((e12.trans e14).trans e28), s28, (h28.2 c29)⟩
      · have y12 := k12 (rng_end (I := fun j => V12 j ) l12 q12 h12)
        refine wt_exit rfl (wt_seq (wt_region (o_ret cc28 (Wp.c0 y12 ⟨rfl, rfl⟩ s12) rfl ?_)))
        rintro v30 I30 w30 e30 ⟨A30, x30, s30, ⟨rfl, r30⟩, h30⟩
        replace s30 := s30.of_nil
        obtain rfl : _ = _ := r30
        refine o_asg (.bool x30) rfl (wl_nil (?_))
        exact ret_one Try.func7 rfl rfl ((((((e1.trans e4).trans e5).trans e9).trans e11).trans e12).trans e30) ⟨[], _, s30, ⟨rfl, rfl⟩, h30⟩

def law42_own  (l : List Ref42_Step) (Q : List Sched_Step → Prop) : Prop := Wp Try.prog 32 (sD sN) (l, ()) rO Q
def law42_own_v  (l : List Ref42_Step) (Q : List Sched_Step → Prop) : Prop := (l.length ≤ 9223372036854775807 → Rng1 l.length (fun j2 q2 V2 (out3 : List Sched_Step) => (∃ q6 : j2 < l.length, ((out3.length + 1) * 32 ≤ 140737488355328 ∧ V2 (out3 ++ [(⟨(l[j2]).Part, (l[j2]).Out⟩ : Sched_Step)])))) (fun (out3 : List Sched_Step) => Q out3) [])
theorem law42_own_w  {l : List Ref42_Step} {Q : List Sched_Step → Prop} (h : law42_own_v l Q) : law42_own l Q := by
  rintro I w T A vs ⟨u0, _, rfl, (r_l : rep I w u0 l), rfl, rfl⟩ s0
  refine ret_of_wt Try.func32 rfl Try.ntmps32 rfl ?_
  refine wt_seq (wt_region (o_assign (wl_nil (wt_seq (wt_region (o_assign (wl_nil (wt_seq (wt_seq (wt_region (o_mov u0 rfl (o_len' r_l rfl sl38 rfl (o_move (wl_nil (wt_block (?_))))))))))))))))
  have h1 := (h (rep_len r_l))
  obtain ⟨V2, z2, b2, k2⟩ := h1
  refine wt_loop (fun n f w2 => ∃ (g : Fr) (I2 : Reg) (j2 : Nat) (A3 : Own) (v3 : Value) (out3 : List Sched_Step), f = ov [(3, v3), (6, u0), (7, .int .i64 (l.length : Int)), (8, .int .i64 (j2 : Int))] g ∧ n = l.length - j2 ∧ j2 ≤ l.length ∧ Ext I w I2 w2 ∧ St I2 w2 (A3 ++ T) ∧ OwnSl I2 w2 A3 v3 out3 ∧ V2 j2 out3) _ ⟨_, _, 0, [], (.slice none 0 0), [], ov_self _ _ ⟨rfl, rfl, rfl, rfl, trivial⟩, rfl, Nat.zero_le _, Ext.refl _ _, s0, OwnSl.nil, z2⟩ ?_
  rintro n f w2 ⟨g, I2, j2, A3, v3, out3, rfl, rfl, l2, e2, s2, o3, h2⟩ i2
  refine wt_seq (wt_region (o_lssv rfl rfl (wl_nil (wt_seq (wt_condp rfl (fun q2 => ?_) (fun q2 => ?_))))))
  · have y2 := b2 _ (rng_lt q2) _ h2
    have q2n := rng_lt q2
    refine wt_skip (wt_seq (wt_block (wt_seq (wt_region (v_il (j := j2) sl38 (e2.rep r_l) rfl rfl rfl rfl ty42 y2 (fun q6 a6 v6 r6 h6 => ?_))))))
    obtain ⟨c6_0, c6_1, rfl, rr6_0, r6_1⟩ := open_Ref42_Step r6
    obtain ⟨rfl, g6_0⟩ := rint_in rr6_0
    refine o_allocO (z := .agg #[.int .i64 0, .slice none 0 0]) (cs := #[.int .i64 0, .slice none 0 0]) s2 zr42 rfl (fun bk5 w7 e7 s7 => ?_)
    refine o_storeB (vs := [.int .i64 ((l[j2]).Part), c6_1]) ty42 s7 rfl rfl rfl rfl ⟨rfl, (one1 rfl (e7.rep r6_1)), trivial⟩ (fun w8 e8 s8 => ?_)
    refine wl_nil (wt_region (o_mov v3 rfl (o_fieldO fl42_0 rfl (o_loadO (v := .int .i64 ((l[j2]).Part)) ty3 s8 rfl rfl (o_fieldO fl42_1 rfl (o_loadO (v := c6_1) ty22 s8 rfl rfl (o_buildS (lc := [(0, #[.int .i64 ((l[j2]).Part)]), (1, #[c6_1])]) (vs := #[.int .i64 ((l[j2]).Part), c6_1]) bd41 ⟨_, Try.underlying41⟩ ⟨rfl, rfl, rfl, (cells1 rfl (e8.rep (e7.rep r6_1))), trivial⟩ rfl (?_))))))))
    have s10 := s8.rot1
    refine v_app1 sl36 rfl rfl rfl s10 ((o3.mono e7).mono e8) (mk_Sched_Step ⟨rfl, g6_0.1, g6_0.2⟩ (e8.rep (e7.rep r6_1))) rfl rfl h6 rfl (fun u9 v9 A9 I9 w9 e9 s9 o9 l9 h9 => ?_)
    refine o_asg v9 rfl (wl_nil (wt_inBlock (wt_region (o_addi rfl rfl (inr_succ0 q2n (rep_len r_l)) (o_mov (.int .i64 ((j2 : Int) + 1)) rfl (wl_nil (?_)))))))
    have s11 := s9.rot1
    exact i2.out _ _ _ (by omega) ⟨_, _, j2 + 1, A9, v9, (out3 ++ [(⟨(l[j2]).Part, (l[j2]).Out⟩ : Sched_Step)]), ov_self _ _ ⟨rfl, rfl, rfl, rfl, trivial⟩, rfl, q2n, (((e2.trans e7).trans e8).trans e9), s11.drop, o9, h9⟩
  · have y2 := k2 _ (rng_end (I := fun j => V2 j out3) l2 q2 h2)
    refine wt_exit rfl (wt_seq (wt_region (o_mov v3 rfl (o_asg v3 rfl (wl_nil (?_))))))
    exact ret_one Try.func32 rfl rfl e2 ⟨A3, _, s2, o3, y2⟩

def vset_Within  (a : List Int) (b : List Int) (Q : Bool → Prop) : Prop := Wp Try.prog 24 (sD (sD sN)) (a, b, ()) rD Q
def vset_Within_v  (a : List Int) (b : List Int) (Q : Bool → Prop) : Prop := vset_Less a b (fun (x1 : List Int) => (x1.length ≤ 9223372036854775807 → Q (decide ((x1.length : Int) = 0))))
theorem vset_Within_w  {a : List Int} {b : List Int} {Q : Bool → Prop} (h : vset_Within_v a b Q) : vset_Within a b Q := by
  rintro I w T A vs ⟨u0, _, rfl, (r_a : rep I w u0 a), u1, _, rfl, (r_b : rep I w u1 b), rfl, rfl⟩ s0
  refine ret_of_wt Try.func24 rfl Try.ntmps24 rfl ?_
  refine wt_seq (wt_region (o_assign (wl_nil (wt_seq (wt_region (o_mov u0 rfl (o_mov u1 rfl (o_ret cc22 (Wp.c0 h ⟨_, _, rfl, r_a, _, _, rfl, r_b, rfl, rfl⟩ s0) rfl ?_))))))))
  rintro v1 I1 w1 e1 ⟨A1, x1, s1, o1, h1⟩
  refine o_lenO o1 rfl sl22 rfl (o_eqlv rfl rfl (o_asg (.bool (decide ((x1.length : Int) = 0))) rfl (wl_nil (?_))))
  exact ret_one Try.func24 rfl rfl e1 ⟨[], _, s1.drop, ⟨rfl, rfl⟩, (h1 o1.bd)⟩

def vset_Same  (a : List Int) (b : List Int) (Q : Bool → Prop) : Prop := Wp Try.prog 26 (sD (sD sN)) (a, b, ()) rD Q
def vset_Same_v  (a : List Int) (b : List Int) (Q : Bool → Prop) : Prop := vset_Within a b (fun (x1 : Bool) => ((x1 = true → vset_Within b a (fun (x3 : Bool) => Q x3)) ∧ (x1 = false → Q false)))
theorem vset_Same_w  {a : List Int} {b : List Int} {Q : Bool → Prop} (h : vset_Same_v a b Q) : vset_Same a b Q := by
  rintro I w T A vs ⟨u0, _, rfl, (r_a : rep I w u0 a), u1, _, rfl, (r_b : rep I w u1 b), rfl, rfl⟩ s0
  refine ret_of_wt Try.func26 rfl Try.ntmps26 rfl ?_
  refine wt_seq (wt_region (o_assign (wl_nil (wt_seq (wt_region (o_mov u0 rfl (o_mov u1 rfl (o_ret cc24 (Wp.c0 h ⟨_, _, rfl, r_a, _, _, rfl, r_b, rfl, rfl⟩ s0) rfl ?_))))))))
  rintro v1 I1 w1 e1 ⟨A1, x1, s1, ⟨rfl, r1⟩, h1⟩
  replace s1 := s1.of_nil
  obtain rfl : _ = _ := r1
  refine o_mov (.bool x1) rfl (wl_caseb (d := 8) rfl rfl (fun c2 => ?_) (fun c2 => ?_))
  · refine wl_yes rfl (o_mov u1 rfl (wl_yes rfl (o_mov u0 rfl (wl_yes rfl (o_ret cc24 (Wp.c0 (h1.1 c2) ⟨_, _, rfl, (e1.rep r_b), _, _, rfl, (e1.rep r_a), rfl, rfl⟩ s1) rfl ?_)))))
    rintro v3 I3 w3 e3 ⟨A3, x3, s3, ⟨rfl, r3⟩, h3⟩
    replace s3 := s3.of_nil
    obtain rfl : _ = _ := r3
    refine o_pickt (.bool x3) rfl rfl (o_asg (.bool x3) rfl (wl_nil (?_)))
    exact ret_one Try.func26 rfl rfl (e1.trans e3) ⟨[], _, s3, ⟨rfl, rfl⟩, h3⟩
  · refine wl_no rfl (wl_no rfl (wl_no rfl (o_pick0 rfl (o_asg (.bool false) rfl (wl_nil (?_))))))
    exact ret_one Try.func26 rfl rfl e1 ⟨[], _, s1, ⟨rfl, rfl⟩, (h1.2 c2)⟩

def sched_Right  (parts : List (List Int)) (out : List Int) (l : List Sched_Step) (Q : Bool → Prop) : Prop := Wp Try.prog 33 (sD (sD (sD sN))) (parts, out, l, ()) rD Q
def sched_Right_v  (parts : List (List Int)) (out : List Int) (l : List Sched_Step) (Q : Bool → Prop) : Prop := sched_sets parts (fun (x1 : List (List Int)) => vset_Of out (fun (x2 : List Int) => (l.length ≤ 9223372036854775807 → (x1.length ≤ 9223372036854775807 → ((¬((l.length : Int) = (x1.length : Int)) → Q false) ∧ (((l.length : Int) = (x1.length : Int)) → (l.length ≤ 9223372036854775807 → Rng1 l.length (fun j7 q7 V7 (at9 : List (Int × Int)) => (∃ q10 : j7 < l.length, (InR ((mget at9 ((l[j7]).Part)).getD 0) → ((((mget at9 ((l[j7]).Part)).isSome) = true → Q false) ∧ (((mget at9 ((l[j7]).Part)).isSome) = false → ((((l[j7]).Part < 0) → Q false) ∧ (¬((l[j7]).Part < 0) → (x1.length ≤ 9223372036854775807 → ((((x1.length : Int) ≤ (l[j7]).Part) → Q false) ∧ (¬((x1.length : Int) ≤ (l[j7]).Part) → V7 (mset at9 ((l[j7]).Part) (j7 : Int)))))))))))) (fun (at9 : List (Int × Int)) => (x1.length ≤ 9223372036854775807 → ((((x1.length : Int) = 0) → Q true) ∧ (¬((x1.length : Int) = 0) → (l.length ≤ 9223372036854775807 → Rng1 l.length (fun j29 q29 V29 (gone30 : List Int) => (∃ q33 : j29 < l.length, vset_Of ((l[j29]).Out) (fun (x36 : List Int) => vset_Within x36 x2 (fun (x40 : Bool) => (((!x40) = true → Q false) ∧ ((!x40) = false → vset_Meet x36 gone30 (fun (x49 : List Int) => (x49.length ≤ 9223372036854775807 → (((0 < (x49.length : Int)) → Q false) ∧ (¬(0 < (x49.length : Int)) → (x1.length ≤ 9223372036854775807 → Rng0 x1.length (fun j56 q56 V56 => (∃ q59 : j56 < x1.length, (InR ((mget at9 (j56 : Int)).getD 0) → ((((j29 : Int) < ((mget at9 (j56 : Int)).getD 0)) → vset_Meet (x1[j56]) x36 (fun (x66 : List Int) => (x66.length ≤ 9223372036854775807 → (((0 < (x66.length : Int)) → Q false) ∧ (¬(0 < (x66.length : Int)) → V56))))) ∧ (¬((j29 : Int) < ((mget at9 (j56 : Int)).getD 0)) → V56))))) (vset_Union ([gone30, x36] : List (List Int)) (fun (x76 : List Int) => V29 x76))))))))))))) (fun (gone30 : List Int) => vset_Same gone30 x2 (fun (x80 : Bool) => Q x80)) []))))) ([] : List (Int × Int)))))))))
set_option maxHeartbeats 4000000 in
theorem sched_Right_w  {parts : List (List Int)} {out : List Int} {l : List Sched_Step} {Q : Bool → Prop} (h : sched_Right_v parts out l Q) : sched_Right parts out l Q := by
  rintro I w T A vs ⟨u0, _, rfl, (r_parts : rep I w u0 parts), u1, _, rfl, (r_out : rep I w u1 out), u2, _, rfl, (r_l : rep I w u2 l), rfl, rfl⟩ s0
  refine ret_of_wt Try.func33 rfl Try.ntmps33 rfl ?_
  refine wt_seq (wt_region (o_assign (wl_nil (wt_seq (wt_region (o_mov u0 rfl (o_ret cc41 (Wp.c0 h ⟨_, _, rfl, r_parts, rfl, rfl⟩ s0) rfl ?_)))))))
  rintro v1 I1 w1 e1 ⟨A1, x1, s1, o1, h1⟩
  refine o_mov u1 rfl (o_ret cc10 (Wp.c0 h1 ⟨_, _, rfl, (e1.rep r_out), rfl, rfl⟩ s1) rfl ?_)
  rintro v2 I2 w2 e2 ⟨A2, x2, s2, o2, h2⟩
  refine o_asg v1 rfl (o_asg v2 rfl (wl_nil (wt_seq (wt_seq (wt_region (o_mov u2 rfl (o_len' (e2.rep (e1.rep r_l)) rfl sl36 rfl (o_mov v1 rfl (o_lenO (o1.mono e2) rfl sl29 rfl (o_nev rfl rfl (wl_nil (?_))))))))))))
  have h3 := ((h2 (rep_len r_l)) o1.bd)
  refine wt_condn rfl (fun c4 => ?_) (fun c4 => ?_)
  · refine wt_seq (wt_region (o_assign (wl_nil (?_))))
    exact ret_one Try.func33 rfl rfl (e1.trans e2) ⟨[], _, s2.drop.drop, ⟨rfl, rfl⟩, (h3.1 c4)⟩
  · refine wt_skip (wt_seq (wt_region (o_makeMap Int Int s2 (fun v5 A5 w5 e5 s5 o5 => ?_))))
    refine o_asg v5 rfl (wl_nil (wt_seq (wt_seq (wt_region (o_mov u2 rfl (o_len' (e5.rep (e2.rep (e1.rep r_l))) rfl sl36 rfl (o_move (wl_nil (wt_block (?_))))))))))
    have h6 := ((h3.2 c4) (rep_len r_l))
    obtain ⟨V7, z7, b7, k7⟩ := h6
    refine wt_loop (fun n f w7 => ∃ (g : Fr) (I7 : Reg) (j7 : Nat) (A9 : Own) (v9 : Value) (at9 : List (Int × Int)), f = ov [(2, u2), (7, v1), (8, v2), (9, v9), (30, u2), (31, .int .i64 (l.length : Int)), (32, .int .i64 (j7 : Int))] g ∧ n = l.length - j7 ∧ j7 ≤ l.length ∧ Ext I2 w5 I7 w7 ∧ St I7 w7 (A9 ++ (A2 ++ (A1 ++ T))) ∧ OwnMap I7 w7 A9 v9 at9 ∧ V7 j7 at9) _ ⟨_, _, 0, A5, v5, ([] : List (Int × Int)), ov_self _ _ ⟨rfl, rfl, rfl, rfl, rfl, rfl, rfl, trivial⟩, rfl, Nat.zero_le _, Ext.refl _ _, s5, o5, z7⟩ ?_
    rintro n f w7 ⟨g, I7, j7, A9, v9, at9, rfl, rfl, l7, e7, s7, o9, h7⟩ i7
    refine wt_seq (wt_region (o_lssv rfl rfl (wl_nil (wt_seq (wt_condp rfl (fun q7 => ?_) (fun q7 => ?_))))))
    · have y7 := b7 _ (rng_lt q7) _ h7
      have q7n := rng_lt q7
      refine wt_skip (wt_seq (wt_block (wt_seq (wt_region (o_mov (.int .i64 (j7 : Int)) rfl (v_il (j := j7) sl36 (e7.rep (e5.rep (e2.rep (e1.rep r_l)))) rfl rfl rfl rfl ty41 y7 (fun q10 a10 v10 r10 h10 => ?_)))))))
      obtain ⟨c10_0, c10_1, rfl, rr10_0, r10_1⟩ := open_Sched_Step r10
      obtain ⟨rfl, g10_0⟩ := rint_in rr10_0
      refine o_allocO (z := .agg #[.int .i64 0, .slice none 0 0]) (cs := #[.int .i64 0, .slice none 0 0]) s7 zr41 rfl (fun bk11 w11 e11 s11 => ?_)
      refine o_asg (.int .i64 (j7 : Int)) rfl (o_storeB (vs := [.int .i64 ((l[j7]).Part), c10_1]) ty41 s11 rfl rfl rfl rfl ⟨rfl, (one1 rfl (e11.rep r10_1)), trivial⟩ (fun w12 e12 s12 => ?_))
      refine wl_nil (wt_seq (wt_seq (wt_region (o_mov v9 rfl (o_fieldO fl41_0 rfl (o_loadO (v := .int .i64 ((l[j7]).Part)) ty3 s12 rfl rfl (?_)))))))
      have s14 := s12.rot1
      refine o_lookupOk (zv := .int .i64 0) (zd := (0 : Int)) mt53 ((o9.mono e11).mono e12) s14 rfl rfl ⟨rfl, g10_0.1, g10_0.2⟩ (zv3 _) ⟨rfl, by decide, by decide⟩ (fun v13 r13 => ?_)
      obtain ⟨rfl, g13⟩ := rint_in r13
      refine o_mov (.tuple #[.int .i64 ((mget at9 ((l[j7]).Part)).getD 0), .bool ((mget at9 ((l[j7]).Part)).isSome)]) rfl (o_extract rfl rfl (o_extract rfl rfl (o_asg (.int .i64 ((mget at9 ((l[j7]).Part)).getD 0)) rfl (o_asg (.bool ((mget at9 ((l[j7]).Part)).isSome)) rfl (wl_nil (wt_seq (wt_region (o_mov (.bool ((mget at9 ((l[j7]).Part)).isSome)) rfl (o_mov (.bool ((mget at9 ((l[j7]).Part)).isSome)) rfl (wl_caseb (d := 45) rfl rfl (fun c15 => ?_) (fun c15 => ?_)))))))))))
      · refine wl_no rfl (wl_no rfl (wl_no rfl (o_pick1 rfl (o_mov (.bool true) rfl (wl_no rfl (wl_no rfl (wl_no rfl (wl_no rfl (wl_no rfl (o_pick1 rfl (wl_nil (wt_true rfl (wt_seq (wt_region (o_assign (wl_nil (?_)))))))))))))))))
        exact ret_one Try.func33 rfl rfl (((((e1.trans e2).trans e5).trans e7).trans e11).trans e12) ⟨[], _, s14.drop.drop.drop.drop, ⟨rfl, rfl⟩, ((h10 g13).1 c15)⟩
      · refine wl_yes rfl (o_fieldO fl41_0 rfl (wl_yes rfl (?_)))
        have s16 := s14.rot1
        refine o_loadO (v := .int .i64 ((l[j7]).Part)) ty3 s16 rfl rfl (wl_yes rfl (o_lssv rfl rfl (o_pickf (.bool (decide ((l[j7]).Part < 0))) rfl rfl (o_mov (.bool (decide ((l[j7]).Part < 0))) rfl (?_)))))
        have h17 := ((h10 g13).2 c15)
        refine wl_casep (d := 50) rfl rfl (fun c18 => ?_) (fun c18 => ?_)
        · refine wl_no rfl (wl_no rfl (wl_no rfl (wl_no rfl (wl_no rfl (o_pick1 rfl (wl_nil (wt_true rfl (wt_seq (wt_region (o_assign (wl_nil (?_))))))))))))
          exact ret_one Try.func33 rfl rfl (((((e1.trans e2).trans e5).trans e7).trans e11).trans e12) ⟨[], _, s16.drop.drop.drop.drop, ⟨rfl, rfl⟩, (h17.1 c18)⟩
        · refine wl_yes rfl (o_fieldO fl41_0 rfl (wl_yes rfl (o_loadO (v := .int .i64 ((l[j7]).Part)) ty3 s16 rfl rfl (wl_yes rfl (o_mov v1 rfl (wl_yes rfl (o_lenO (((((o1.mono e2).mono e5).mono e7).mono e11).mono e12) rfl sl29 rfl (wl_yes rfl (o_geqv rfl rfl (o_pickf (.bool (decide ((x1.length : Int) ≤ (l[j7]).Part))) rfl rfl (wl_nil (?_))))))))))))
          have h19 := ((h17.2 c18) o1.bd)
          refine wt_condp rfl (fun c20 => ?_) (fun c20 => ?_)
          · refine wt_seq (wt_region (o_assign (wl_nil (?_))))
            exact ret_one Try.func33 rfl rfl (((((e1.trans e2).trans e5).trans e7).trans e11).trans e12) ⟨[], _, s16.drop.drop.drop.drop, ⟨rfl, rfl⟩, (h19.1 c20)⟩
          · refine wt_skip (wt_region (o_mov v9 rfl (o_fieldO fl41_0 rfl (o_loadO (v := .int .i64 ((l[j7]).Part)) ty3 s16 rfl rfl (o_mov (.int .i64 (j7 : Int)) rfl (?_))))))
            have s22 := s16.rot1
            refine o_mapSet mt53 ((o9.mono e11).mono e12) s22 rfl rfl rfl ⟨rfl, g10_0.1, g10_0.2⟩ ⟨rfl, (inr_nat l7 (rep_len r_l)).1, (inr_nat l7 (rep_len r_l)).2⟩ (fun A21 w21 e21 s21 o21 => ?_)
            refine wl_nil (wt_inBlock (wt_region (o_addi rfl rfl (inr_succ0 q7n (rep_len r_l)) (o_mov (.int .i64 ((j7 : Int) + 1)) rfl (wl_nil (?_))))))
            have s23 := s21.rot1
            exact i7.out _ _ _ (by omega) ⟨_, _, j7 + 1, A21, v9, (mset at9 ((l[j7]).Part) (j7 : Int)), ov_self _ _ ⟨rfl, rfl, rfl, rfl, rfl, rfl, rfl, trivial⟩, rfl, q7n, (((e7.trans e11).trans e12).trans e21), s23.drop, o21, (h19.2 c20)⟩
    · have y7 := k7 _ (rng_end (I := fun j => V7 j at9) l7 q7 h7)
      refine wt_exit rfl (wt_seq (wt_seq (wt_region (o_mov v1 rfl (o_lenO (((o1.mono e2).mono e5).mono e7) rfl sl29 rfl (o_eqlv rfl rfl (wl_nil (?_))))))))
      have h24 := (y7 o1.bd)
      refine wt_condp rfl (fun c25 => ?_) (fun c25 => ?_)
      · refine wt_seq (wt_region (o_assign (wl_nil (?_))))
        exact ret_one Try.func33 rfl rfl (((e1.trans e2).trans e5).trans e7) ⟨[], _, s7.drop.drop.drop, ⟨rfl, rfl⟩, (h24.1 c25)⟩
      · refine wt_skip (wt_seq (wt_region (o_assign (wl_nil (wt_seq (wt_seq (wt_region (o_mov u2 rfl (o_len' (e7.rep (e5.rep (e2.rep (e1.rep r_l)))) rfl sl36 rfl (o_move (wl_nil (wt_block (?_)))))))))))))
        have h26 := ((h24.2 c25) (rep_len r_l))
        have s28 := s7.rot2
        obtain ⟨I27, e27, s27, r27⟩ := OwnSl.freeze (((o1.mono e2).mono e5).mono e7) s28
        obtain ⟨V29, z29, b29, k29⟩ := h26
        refine wt_loop (fun n f w29 => ∃ (g : Fr) (I29 : Reg) (j29 : Nat) (A30 : Own) (v30 : Value) (gone30 : List Int), f = ov [(7, v1), (8, v2), (9, v9), (14, v30), (65, u2), (66, .int .i64 (l.length : Int)), (67, .int .i64 (j29 : Int))] g ∧ n = l.length - j29 ∧ j29 ≤ l.length ∧ Ext I27 w7 I29 w29 ∧ St I29 w29 (A30 ++ (A9 ++ (A2 ++ T))) ∧ OwnSl I29 w29 A30 v30 gone30 ∧ V29 j29 gone30) _ ⟨_, _, 0, [], (.slice none 0 0), [], ov_self _ _ ⟨rfl, rfl, rfl, rfl, rfl, rfl, rfl, trivial⟩, rfl, Nat.zero_le _, Ext.refl _ _, s27, OwnSl.nil, z29⟩ ?_
        rintro n f w29 ⟨g, I29, j29, A30, v30, gone30, rfl, rfl, l29, e29, s29, o30, h29⟩ i29
        refine wt_seq (wt_region (o_lssv rfl rfl (wl_nil (wt_seq (wt_condp rfl (fun q29 => ?_) (fun q29 => ?_))))))
        · have y29 := b29 _ (rng_lt q29) _ h29
          have q29n := rng_lt q29
          refine wt_skip (wt_seq (wt_block (wt_seq (wt_region (o_mov (.int .i64 (j29 : Int)) rfl (v_il (j := j29) sl36 (e29.rep (e27.rep (e7.rep (e5.rep (e2.rep (e1.rep r_l)))))) rfl rfl rfl rfl ty41 y29 (fun q33 a33 v33 r33 h33 => ?_)))))))
          obtain ⟨c33_0, c33_1, rfl, rr33_0, r33_1⟩ := open_Sched_Step r33
          obtain ⟨rfl, g33_0⟩ := rint_in rr33_0
          refine o_allocO (z := .agg #[.int .i64 0, .slice none 0 0]) (cs := #[.int .i64 0, .slice none 0 0]) s29 zr41 rfl (fun bk16 w34 e34 s34 => ?_)
          refine o_asg (.int .i64 (j29 : Int)) rfl (o_storeB (vs := [.int .i64 ((l[j29]).Part), c33_1]) ty41 s34 rfl rfl rfl rfl ⟨rfl, (one1 rfl (e34.rep r33_1)), trivial⟩ (fun w35 e35 s35 => ?_))
          refine wl_nil (wt_seq (wt_region (o_fieldO fl41_1 rfl (o_loadO (v := c33_1) ty22 s35 rfl rfl (o_ret cc10 (Wp.c0 h33 ⟨_, _, rfl, (e35.rep (e34.rep r33_1)), rfl, rfl⟩ s35) rfl ?_)))))
          rintro v36 I36 w36 e36 ⟨A36, x36, s36, o36, h36⟩
          refine o_asg v36 rfl (wl_nil (wt_seq (wt_seq (wt_region (o_mov v36 rfl (o_mov v2 rfl (?_)))))))
          obtain ⟨e37, s37, r37⟩ := OwnSl.lend o36 s36
          have s39 := s37.rot3
          obtain ⟨e38, s38, r38⟩ := OwnSl.lend ((((((((o2.mono e5).mono e7).mono e27).mono e29).mono e34).mono e35).mono e36).mono e37) s39
          refine o_ret cc24 (Wp.c0 h36 ⟨_, _, rfl, (e38.rep r37), _, _, rfl, r38, rfl, rfl⟩ s38) rfl ?_
          rintro v40 I40 w40 e40 ⟨A40, x40, s40, ⟨rfl, r40⟩, h40⟩
          replace s40 := s40.of_nil
          obtain rfl : _ = _ := r40
          obtain ⟨I41, e41, s41⟩ := St.back s39 e40 s40
          have s43 := s41.rot3.rot3.rot3
          obtain ⟨I42, e42, s42⟩ := St.back s36 e41 s43
          refine o_not rfl (o_mov (.bool (!x40)) rfl (wl_caseb (d := 79) rfl rfl (fun c44 => ?_) (fun c44 => ?_)))
          · refine wl_no rfl (wl_no rfl (wl_no rfl (wl_no rfl (wl_no rfl (o_pick1 rfl (wl_nil (wt_true rfl (wt_seq (wt_region (o_assign (wl_nil (?_))))))))))))
            exact ret_one Try.func33 rfl rfl (((((((((e1.trans e2).trans e5).trans e7).trans e27).trans e29).trans e34).trans e35).trans e36).trans e42) ⟨[], _, s42.drop.drop.drop.drop.drop, ⟨rfl, rfl⟩, (h40.1 c44)⟩
          · refine wl_yes rfl (o_mov v36 rfl (wl_yes rfl (o_mov v30 rfl (wl_yes rfl (?_)))))
            have h45 := (h40.2 c44)
            obtain ⟨e46, s46, r46⟩ := OwnSl.lend (o36.mono e42) s42
            have s48 := s46.rot1
            obtain ⟨e47, s47, r47⟩ := OwnSl.lend (((((o30.mono e34).mono e35).mono e36).mono e42).mono e46) s48
            refine o_ret cc20 (Wp.c0 h45 ⟨_, _, rfl, (e47.rep r46), _, _, rfl, r47, rfl, rfl⟩ s47) rfl ?_
            rintro v49 I49 w49 e49 ⟨A49, x49, s49, o49, h49⟩
            obtain ⟨I50, e50, s50⟩ := St.back2 s48 e49 s49
            replace o49 := o49.flatI (I' := I50) (w' := w49)
            have s52 := s50.rot2.rot1
            obtain ⟨I51, e51, s51⟩ := St.back2 s42 e50 s52
            replace o49 := o49.flatI (I' := I51) (w' := w49)
            refine wl_yes rfl (o_lenO o49 rfl sl22 rfl (wl_yes rfl (o_gtrv rfl rfl (o_pickf (.bool (decide (0 < (x49.length : Int)))) rfl rfl (wl_nil (?_))))))
            have h53 := (h49 o49.bd)
            refine wt_condp rfl (fun c54 => ?_) (fun c54 => ?_)
            · refine wt_seq (wt_region (o_assign (wl_nil (?_))))
              exact ret_one Try.func33 rfl rfl ((((((((((e1.trans e2).trans e5).trans e7).trans e27).trans e29).trans e34).trans e35).trans e36).trans e42).trans e51) ⟨[], _, s51.drop.drop.drop.drop.drop.drop, ⟨rfl, rfl⟩, (h53.1 c54)⟩
            · refine wt_skip (wt_seq (wt_seq (wt_region (o_mov v1 rfl (o_len' (e51.rep (e42.rep (e36.rep (e35.rep (e34.rep (e29.rep r27)))))) rfl sl29 rfl (o_move (wl_nil (wt_block (?_)))))))))
              have h55 := ((h53.2 c54) o1.bd)
              have s58 := s51.rot2.rot1
              obtain ⟨V56, z56, b56, k56⟩ := h55
              refine wt_loop (fun n f w56 => ∃ (g : Fr) (I56 : Reg) (j56 : Nat) , f = ov [(7, v1), (8, v2), (9, v9), (14, v30), (15, .int .i64 (j29 : Int)), (17, v36), (65, u2), (66, .int .i64 (l.length : Int)), (67, .int .i64 (j29 : Int)), (86, v1), (87, .int .i64 (x1.length : Int)), (88, .int .i64 (j56 : Int))] g ∧ n = x1.length - j56 ∧ j56 ≤ x1.length ∧ Ext I51 w49 I56 w56 ∧ St I56 w56 (A36 ++ (A30 ++ (A9 ++ (A2 ++ T)))) ∧ V56 j56 ) _ ⟨_, _, 0, ov_self _ _ ⟨rfl, rfl, rfl, rfl, rfl, rfl, rfl, rfl, rfl, rfl, rfl, rfl, trivial⟩, rfl, Nat.zero_le _, Ext.refl _ _, s58.drop.drop, z56⟩ ?_
              rintro n f w56 ⟨g, I56, j56, rfl, rfl, l56, e56, s56, h56⟩ i56
              refine wt_seq (wt_region (o_lssv rfl rfl (wl_nil (wt_seq (wt_condp rfl (fun q56 => ?_) (fun q56 => ?_))))))
              · have y56 := b56 _ (rng_lt q56) h56
                have q56n := rng_lt q56
                refine wt_skip (wt_seq (wt_block (wt_seq (wt_region (o_mov (.int .i64 (j56 : Int)) rfl (v_il (j := j56) sl29 (e56.rep (e51.rep (e42.rep (e36.rep (e35.rep (e34.rep (e29.rep r27))))))) rfl rfl rfl rfl ty22 y56 (fun q59 a59 v59 r59 h59 => ?_)))))))
                refine o_asg (.int .i64 (j56 : Int)) rfl (o_asg v59 rfl (wl_nil (wt_seq (wt_region (o_mov v9 rfl (o_mov (.int .i64 (j56 : Int)) rfl (?_)))))))
                have s61 := s56.rot2
                refine o_lookup (zv := .int .i64 0) (zd := (0 : Int)) mt53 ((((((((o9.mono e27).mono e29).mono e34).mono e35).mono e36).mono e42).mono e51).mono e56) s61 rfl rfl ⟨rfl, (inr_nat l56 o1.bd).1, (inr_nat l56 o1.bd).2⟩ (zv3 _) ⟨rfl, by decide, by decide⟩ (fun v60 r60 => ?_)
                obtain ⟨rfl, g60⟩ := rint_in r60
                refine o_mov (.int .i64 (j29 : Int)) rfl (o_gtrv rfl rfl (o_mov (.bool (decide ((j29 : Int) < ((mget at9 (j56 : Int)).getD 0)))) rfl (wl_casep (d := 98) rfl rfl (fun c62 => ?_) (fun c62 => ?_))))
                · refine wl_yes rfl (o_mov v59 rfl (wl_yes rfl (o_mov v36 rfl (wl_yes rfl (?_)))))
                  have h63 := ((h59 g60).1 c62)
                  have s65 := s61.rot1
                  obtain ⟨e64, s64, r64⟩ := OwnSl.lend (((o36.mono e42).mono e51).mono e56) s65
                  refine o_ret cc20 (Wp.c0 h63 ⟨_, _, rfl, (e64.rep r59), _, _, rfl, r64, rfl, rfl⟩ s64) rfl ?_
                  rintro v66 I66 w66 e66 ⟨A66, x66, s66, o66, h66⟩
                  obtain ⟨I67, e67, s67⟩ := St.back2 s65 e66 s66
                  replace o66 := o66.flatI (I' := I67) (w' := w66)
                  refine wl_yes rfl (o_lenO o66 rfl sl22 rfl (wl_yes rfl (o_gtrv rfl rfl (o_pickt (.bool (decide (0 < (x66.length : Int)))) rfl rfl (wl_nil (?_))))))
                  have h68 := (h66 o66.bd)
                  refine wt_condp rfl (fun c69 => ?_) (fun c69 => ?_)
                  · refine wt_seq (wt_region (o_assign (wl_nil (?_))))
                    exact ret_one Try.func33 rfl rfl ((((((((((((e1.trans e2).trans e5).trans e7).trans e27).trans e29).trans e34).trans e35).trans e36).trans e42).trans e51).trans e56).trans e67) ⟨[], _, s67.drop.drop.drop.drop.drop, ⟨rfl, rfl⟩, (h68.1 c69)⟩
                  · refine wt_skip (wt_inBlock (wt_region (o_addi rfl rfl (inr_succ0 q56n o1.bd) (o_mov (.int .i64 ((j56 : Int) + 1)) rfl (wl_nil (?_))))))
                    have s70 := s67.rot3.rot2.rot2
                    exact i56.out _ _ _ (by omega) ⟨_, _, j56 + 1, ov_self _ _ ⟨rfl, rfl, rfl, rfl, rfl, rfl, rfl, rfl, rfl, rfl, rfl, rfl, trivial⟩, rfl, q56n, (e56.trans e67), s70.drop, (h68.2 c69)⟩
                · refine wl_no rfl (wl_no rfl (wl_no rfl (wl_no rfl (wl_no rfl (o_pick0 rfl (wl_nil (wt_false rfl (wt_skip (wt_inBlock (wt_region (o_addi rfl rfl (inr_succ0 q56n o1.bd) (o_mov (.int .i64 ((j56 : Int) + 1)) rfl (wl_nil (?_))))))))))))))
                  have s71 := s61.rot2.rot2
                  exact i56.out _ _ _ (by omega) ⟨_, _, j56 + 1, ov_self _ _ ⟨rfl, rfl, rfl, rfl, rfl, rfl, rfl, rfl, rfl, rfl, rfl, rfl, trivial⟩, rfl, q56n, e56, s71, ((h59 g60).2 c62)⟩
              · have y56 := k56 (rng_end (I := fun j => V56 j ) l56 q56 h56)
                refine wt_exit rfl (wt_region (o_mov v30 rfl (o_mov v36 rfl (?_))))
                have s73 := s56.rot1
                obtain ⟨I72, e72, s72, r72⟩ := OwnSl.freeze ((((((o30.mono e34).mono e35).mono e36).mono e42).mono e51).mono e56) s73
                obtain ⟨I74, e74, s74, r74⟩ := OwnSl.freeze ((((o36.mono e42).mono e51).mono e56).mono e72) s72
                refine o_buildI (xs := ([gone30, x36] : List (List Int))) (vs := [v30, v36]) sl29 s74 rfl ⟨(e74.rep r72), r74, trivial⟩ rfl rfl (fun v75 I75 w75 e75 s75 r75 => ?_)
                refine o_ret cc18 (Wp.c0 y56 ⟨_, _, rfl, r75, rfl, rfl⟩ s75) rfl ?_
                rintro v76 I76 w76 e76 ⟨A76, x76, s76, o76, h76⟩
                refine o_asg v76 rfl (wl_nil (wt_inBlock (wt_region (o_addi rfl rfl (inr_succ0 q29n (rep_len r_l)) (o_mov (.int .i64 ((j29 : Int) + 1)) rfl (wl_nil (?_)))))))
                exact i29.out _ _ _ (by omega) ⟨_, _, j29 + 1, A76, v76, x76, ov_self _ _ ⟨rfl, rfl, rfl, rfl, rfl, rfl, rfl, trivial⟩, rfl, q29n, ((((((((((e29.trans e34).trans e35).trans e36).trans e42).trans e51).trans e56).trans e72).trans e74).trans e75).trans e76), s76, o76, h76⟩
        · have y29 := k29 _ (rng_end (I := fun j => V29 j gone30) l29 q29 h29)
          refine wt_exit rfl (wt_seq (wt_region (o_mov v30 rfl (o_mov v2 rfl (?_)))))
          obtain ⟨e77, s77, r77⟩ := OwnSl.lend o30 s29
          have s79 := s77.rot1
          obtain ⟨e78, s78, r78⟩ := OwnSl.lend (((((o2.mono e5).mono e7).mono e27).mono e29).mono e77) s79
          refine o_ret cc26 (Wp.c0 y29 ⟨_, _, rfl, (e78.rep r77), _, _, rfl, r78, rfl, rfl⟩ s78) rfl ?_
          rintro v80 I80 w80 e80 ⟨A80, x80, s80, ⟨rfl, r80⟩, h80⟩
          replace s80 := s80.of_nil
          obtain rfl : _ = _ := r80
          obtain ⟨I81, e81, s81⟩ := St.back s79 e80 s80
          have s83 := s81.rot1
          obtain ⟨I82, e82, s82⟩ := St.back s29 e81 s83
          refine o_asg (.bool x80) rfl (wl_nil (?_))
          exact ret_one Try.func33 rfl rfl ((((((e1.trans e2).trans e5).trans e7).trans e27).trans e29).trans e82) ⟨[], _, s82.drop.drop.drop, ⟨rfl, rfl⟩, h80⟩

def ref42_Right  (parts : List (List Int)) (out : List Int) (l : List Ref42_Step) (Q : Bool → Prop) : Prop := Wp Try.prog 34 (sD (sD (sD sN))) (parts, out, l, ()) rD Q
def ref42_Right_v  (parts : List (List Int)) (out : List Int) (l : List Ref42_Step) (Q : Bool → Prop) : Prop := (l.length ≤ 9223372036854775807 → (parts.length ≤ 9223372036854775807 → ((¬((l.length : Int) = (parts.length : Int)) → Q false) ∧ (((l.length : Int) = (parts.length : Int)) → Rng0 parts.length (fun j3 q3 V3 => Rng1 l.length (fun j5 q5 V5 (n6 : Int) => InR n6 → (∃ q8 : j5 < l.length, (InR ((l[j5]).Part) → (((((l[j5]).Part) = (j3 : Int)) → (InR (n6 + 1)) ∧ (V5 (n6 + 1))) ∧ (¬(((l[j5]).Part) = (j3 : Int)) → V5 n6))))) (fun (n6 : Int) => InR n6 → ((¬(n6 = 1) → Q false) ∧ ((n6 = 1) → V3))) 0) (Rng0 out.length (fun j14 q14 V14 => Rng1 l.length (fun j16 q16 V16 (n17 : Int) => InR n17 → (∃ q20 : j16 < l.length, (∃ q23 : j14 < out.length, (InR (out[j14]) → ref42_In ((l[j16]).Out) (out[j14]) (fun (x25 : Bool) => ((x25 = true → (InR (n17 + 1)) ∧ (V16 (n17 + 1))) ∧ (x25 = false → V16 n17))))))) (fun (n17 : Int) => InR n17 → ((¬(n17 = 1) → (l.length ≤ 9223372036854775807 → (((0 < (l.length : Int)) → Q false) ∧ (¬(0 < (l.length : Int)) → V14)))) ∧ ((n17 = 1) → V14))) 0) (Rng0 l.length (fun j31 q31 V31 => Lp1 (fun V33 (j34 : Int) => InR j34 → (∃ q35 : j31 < l.length, (((l[j31]).Out).length ≤ 9223372036854775807 → (((j34 < (((l[j31]).Out).length : Int)) → (∃ q40 : j31 < l.length, ((0 : Int) ≤ j34) ∧ ((∃ q43 : (Int.toNat j34) < ((l[j31]).Out).length, (InR (((l[j31]).Out)[(Int.toNat j34)]) → ref42_In out (((l[j31]).Out)[(Int.toNat j34)]) (fun (x44 : Bool) => (((!x44) = true → Q false) ∧ ((!x44) = false → Lp1 (fun V47 (k48 : Int) => InR k48 → (l.length ≤ 9223372036854775807 → (((k48 < (l.length : Int)) → ((0 : Int) ≤ k48) ∧ ((∃ q53 : (Int.toNat k48) < l.length, (InR ((l[(Int.toNat k48)]).Part) → ((0 : Int) ≤ ((l[(Int.toNat k48)]).Part)) ∧ ((∃ q56 : (Int.toNat ((l[(Int.toNat k48)]).Part)) < parts.length, (∃ q58 : j31 < l.length, ((0 : Int) ≤ j34) ∧ ((∃ q61 : (Int.toNat j34) < ((l[j31]).Out).length, (InR (((l[j31]).Out)[(Int.toNat j34)]) → ref42_In (parts[(Int.toNat ((l[(Int.toNat k48)]).Part))]) (((l[j31]).Out)[(Int.toNat j34)]) (fun (x63 : Bool) => ((x63 = true → Q false) ∧ (x63 = false → (InR (k48 + 1)) ∧ (V47 (k48 + 1))))))))))))))) ∧ (¬(k48 < (l.length : Int)) → (InR (j34 + 1)) ∧ (V33 (j34 + 1)))))) ((j31 : Int) + 1))))))))) ∧ (¬(j34 < (((l[j31]).Out).length : Int)) → V31))))) 0) (Q true)))))))
set_option maxHeartbeats 4000000 in
theorem ref42_Right_w  {parts : List (List Int)} {out : List Int} {l : List Ref42_Step} {Q : Bool → Prop} (h : ref42_Right_v parts out l Q) : ref42_Right parts out l Q := by
  rintro I w T A vs ⟨u0, _, rfl, (r_parts : rep I w u0 parts), u1, _, rfl, (r_out : rep I w u1 out), u2, _, rfl, (r_l : rep I w u2 l), rfl, rfl⟩ s0
  refine ret_of_wt Try.func34 rfl Try.ntmps34 rfl ?_
  refine wt_seq (wt_region (o_assign (wl_nil (wt_seq (wt_seq (wt_region (o_mov u2 rfl (o_len' r_l rfl sl38 rfl (o_mov u0 rfl (o_len' r_parts rfl sl29 rfl (o_nev rfl rfl (wl_nil (?_)))))))))))))
  have h1 := ((h (rep_len r_l)) (rep_len r_parts))
  refine wt_condn rfl (fun c2 => ?_) (fun c2 => ?_)
  · refine wt_seq (wt_region (o_assign (wl_nil (?_))))
    exact ret_one Try.func34 rfl rfl (Ext.refl _ _) ⟨[], _, s0, ⟨rfl, rfl⟩, (h1.1 c2)⟩
  · refine wt_skip (wt_seq (wt_seq (wt_region (o_assign (wl_nil (wt_block (?_)))))))
    obtain ⟨V3, z3, b3, k3⟩ := (h1.2 c2)
    refine wt_loop (fun n f w3 => ∃ (g : Fr) (I3 : Reg) (j3 : Nat) , f = ov [(0, u0), (1, u1), (2, u2), (7, .int .i64 (j3 : Int))] g ∧ n = parts.length - j3 ∧ j3 ≤ parts.length ∧ Ext I w I3 w3 ∧ St I3 w3 T ∧ V3 j3 ) _ ⟨_, _, 0, ov_self _ _ ⟨rfl, rfl, rfl, rfl, trivial⟩, rfl, Nat.zero_le _, Ext.refl _ _, s0, z3⟩ ?_
    rintro n f w3 ⟨g, I3, j3, rfl, rfl, l3, e3, s3, h3⟩ i3
    refine wt_seq (wt_seq (wt_region (o_mov (.int .i64 (j3 : Int)) rfl (o_mov u0 rfl (o_len' (e3.rep r_parts) rfl sl29 rfl (o_lssv rfl rfl (wl_nil (wt_condp rfl (fun q3 => ?_) (fun q3 => ?_)))))))))
    · have y3 := b3 _ (rng_lt q3) h3
      have q3n := rng_lt q3
      refine wt_skip (wt_seq (wt_block (wt_seq (wt_region (o_assign (wl_nil (wt_seq (wt_seq (wt_region (o_assign (wl_nil (wt_block (?_)))))))))))))
      obtain ⟨V5, z5, b5, k5⟩ := y3
      refine wt_loop (fun n f w5 => ∃ (g : Fr) (I5 : Reg) (j5 : Nat) (n6 : Int), f = ov [(0, u0), (1, u1), (2, u2), (7, .int .i64 (j3 : Int)), (8, .int .i64 n6), (9, .int .i64 (j5 : Int))] g ∧ n = l.length - j5 ∧ j5 ≤ l.length ∧ Ext I3 w3 I5 w5 ∧ St I5 w5 T ∧ InR n6 ∧ V5 j5 n6) _ ⟨_, _, 0, 0, ov_self _ _ ⟨rfl, rfl, rfl, rfl, rfl, rfl, trivial⟩, rfl, Nat.zero_le _, Ext.refl _ _, s3, (inr_lit (by decide) (by decide)), z5⟩ ?_
      rintro n f w5 ⟨g, I5, j5, n6, rfl, rfl, l5, e5, s5, g6, h5⟩ i5
      refine wt_seq (wt_seq (wt_region (o_mov (.int .i64 (j5 : Int)) rfl (o_mov u2 rfl (o_len' (e5.rep (e3.rep r_l)) rfl sl38 rfl (o_lssv rfl rfl (wl_nil (wt_condp rfl (fun q5 => ?_) (fun q5 => ?_)))))))))
      · have y5 := b5 _ (rng_lt q5) _ h5 g6
        have q5n := rng_lt q5
        refine wt_skip (wt_seq (wt_block (wt_seq (wt_region (o_mov u2 rfl (o_mov (.int .i64 (j5 : Int)) rfl (v_ix (j := j5) sl38 (e5.rep (e3.rep r_l)) rfl rfl rfl y5 (fun q8 a8 v8 p8 b8 r8 h8 => ?_))))))))
        refine o_field fl42_0 fld_Ref42_Step_0 p8 r8 rfl (fun a9 v9 q9 p9 r9 => ?_)
        have b9 := blk_of q9 b8
        refine o_load ty3 p9 r9 rfl (?_)
        have r10 := r9
        obtain ⟨rfl, g10⟩ := rint_in r10
        refine o_mov (.int .i64 (j3 : Int)) rfl (o_eqlv rfl rfl (wl_nil (wt_condp rfl (fun c11 => ?_) (fun c11 => ?_))))
        · refine wt_region (o_mov (.int .i64 n6) rfl (?_))
          have h12 := ((h8 g10).1 c11)
          refine o_addi rfl rfl h12.1 (o_asg (.int .i64 (n6 + 1)) rfl (wl_nil (wt_inBlock (wt_region (o_mov (.int .i64 (j5 : Int)) rfl (o_addi rfl rfl (inr_succ0 q5n (rep_len r_l)) (o_asg (.int .i64 ((j5 : Int) + 1)) rfl (wl_nil (?_)))))))))
          exact i5.out _ _ _ (by omega) ⟨_, _, j5 + 1, (n6 + 1), ov_self _ _ ⟨rfl, rfl, rfl, rfl, rfl, rfl, trivial⟩, rfl, q5n, e5, s5, h12.1, h12.2⟩
        · refine wt_skip (wt_inBlock (wt_region (o_mov (.int .i64 (j5 : Int)) rfl (o_addi rfl rfl (inr_succ0 q5n (rep_len r_l)) (o_asg (.int .i64 ((j5 : Int) + 1)) rfl (wl_nil (?_)))))))
          exact i5.out _ _ _ (by omega) ⟨_, _, j5 + 1, n6, ov_self _ _ ⟨rfl, rfl, rfl, rfl, rfl, rfl, trivial⟩, rfl, q5n, e5, s5, g6, ((h8 g10).2 c11)⟩
      · have y5 := k5 _ (rng_end (I := fun j => V5 j n6) l5 q5 h5) g6
        refine wt_exit rfl (wt_seq (wt_region (o_mov (.int .i64 n6) rfl (o_nev rfl rfl (wl_nil (wt_condn rfl (fun c13 => ?_) (fun c13 => ?_)))))))
        · refine wt_seq (wt_region (o_assign (wl_nil (?_))))
          exact ret_one Try.func34 rfl rfl (e3.trans e5) ⟨[], _, s5, ⟨rfl, rfl⟩, (y5.1 c13)⟩
        · refine wt_skip (wt_inBlock (wt_region (o_mov (.int .i64 (j3 : Int)) rfl (o_addi rfl rfl (inr_succ0 q3n (rep_len r_parts)) (o_asg (.int .i64 ((j3 : Int) + 1)) rfl (wl_nil (?_)))))))
          exact i3.out _ _ _ (by omega) ⟨_, _, j3 + 1, ov_self _ _ ⟨rfl, rfl, rfl, rfl, trivial⟩, rfl, q3n, (e3.trans e5), s5, (y5.2 c13)⟩
    · have y3 := k3 (rng_end (I := fun j => V3 j ) l3 q3 h3)
      refine wt_exit rfl (wt_seq (wt_seq (wt_region (o_assign (wl_nil (wt_block (?_)))))))
      obtain ⟨V14, z14, b14, k14⟩ := y3
      refine wt_loop (fun n f w14 => ∃ (g : Fr) (I14 : Reg) (j14 : Nat) , f = ov [(0, u0), (1, u1), (2, u2), (10, .int .i64 (j14 : Int))] g ∧ n = out.length - j14 ∧ j14 ≤ out.length ∧ Ext I3 w3 I14 w14 ∧ St I14 w14 T ∧ V14 j14 ) _ ⟨_, _, 0, ov_self _ _ ⟨rfl, rfl, rfl, rfl, trivial⟩, rfl, Nat.zero_le _, Ext.refl _ _, s3, z14⟩ ?_
      rintro n f w14 ⟨g, I14, j14, rfl, rfl, l14, e14, s14, h14⟩ i14
      refine wt_seq (wt_seq (wt_region (o_mov (.int .i64 (j14 : Int)) rfl (o_mov u1 rfl (o_len' (e14.rep (e3.rep r_out)) rfl sl22 rfl (o_lssv rfl rfl (wl_nil (wt_condp rfl (fun q14 => ?_) (fun q14 => ?_)))))))))
      · have y14 := b14 _ (rng_lt q14) h14
        have q14n := rng_lt q14
        refine wt_skip (wt_seq (wt_block (wt_seq (wt_region (o_assign (wl_nil (wt_seq (wt_seq (wt_region (o_assign (wl_nil (wt_block (?_)))))))))))))
        obtain ⟨V16, z16, b16, k16⟩ := y14
        refine wt_loop (fun n f w16 => ∃ (g : Fr) (I16 : Reg) (j16 : Nat) (n17 : Int), f = ov [(0, u0), (1, u1), (2, u2), (10, .int .i64 (j14 : Int)), (11, .int .i64 n17), (12, .int .i64 (j16 : Int))] g ∧ n = l.length - j16 ∧ j16 ≤ l.length ∧ Ext I14 w14 I16 w16 ∧ St I16 w16 T ∧ InR n17 ∧ V16 j16 n17) _ ⟨_, _, 0, 0, ov_self _ _ ⟨rfl, rfl, rfl, rfl, rfl, rfl, trivial⟩, rfl, Nat.zero_le _, Ext.refl _ _, s14, (inr_lit (by decide) (by decide)), z16⟩ ?_
        rintro n f w16 ⟨g, I16, j16, n17, rfl, rfl, l16, e16, s16, g17, h16⟩ i16
        refine wt_seq (wt_seq (wt_region (o_mov (.int .i64 (j16 : Int)) rfl (o_mov u2 rfl (o_len' (e16.rep (e14.rep (e3.rep r_l))) rfl sl38 rfl (o_lssv rfl rfl (wl_nil (wt_condp rfl (fun q16 => ?_) (fun q16 => ?_)))))))))
        · have y16 := b16 _ (rng_lt q16) _ h16 g17
          have q16n := rng_lt q16
          refine wt_skip (wt_seq (wt_block (wt_seq (wt_drawS s16 mixed rfl (fun w19 e19 s19 => ?_)))))
          refine g_op (i := 0) rfl rfl rfl (by kernel_rfl) rfl ⟨_, e19⟩ (fun w' ⟨I', e'⟩ => o_mov u2 rfl ⟨rfl, rfl⟩) (g_op (i := 1) rfl rfl rfl (by kernel_rfl) rfl ⟨_, e19⟩ (fun w' ⟨I', e'⟩ => o_mov (.int .i64 (j16 : Int)) rfl ⟨rfl, rfl⟩) (?_))
          obtain ⟨q20, h20⟩ := y16
          obtain ⟨a20, v20, p20, b20, r20, x20⟩ := at_index (j := j16) sl38 (e16.rep (e14.rep (e3.rep r_l))) q20
          refine g_op (i := 2) rfl rfl rfl (by kernel_rfl) rfl ⟨_, e19⟩ (fun w' ⟨I', e'⟩ => o_ix x20 rfl rfl rfl ⟨rfl, rfl⟩) (?_)
          obtain ⟨v21, r21, p21, q21⟩ := Points.field fld_Ref42_Step_1 p20 r20
          have b21 := blk_of q21 b20
          refine g_op (i := 3) rfl rfl rfl (by kernel_rfl) rfl ⟨_, e19⟩ (fun w' ⟨I', e'⟩ => o_fl fl42_1 rfl ⟨rfl, rfl⟩) (?_)
          have r22 := r21
          refine g_op (i := 4) rfl rfl rfl (by kernel_rfl) rfl ⟨_, e19⟩ (fun w' ⟨I', e'⟩ => o_load ty22 (Points.mono e' b21 p21) (e'.rep r22) rfl ⟨rfl, rfl⟩) (g_op (i := 5) rfl rfl rfl (by kernel_rfl) rfl ⟨_, e19⟩ (fun w' ⟨I', e'⟩ => o_mov u1 rfl ⟨rfl, rfl⟩) (g_op (i := 6) rfl rfl rfl (by kernel_rfl) rfl ⟨_, e19⟩ (fun w' ⟨I', e'⟩ => o_mov (.int .i64 (j14 : Int)) rfl ⟨rfl, rfl⟩) (?_)))
          obtain ⟨q23, h23⟩ := h20
          obtain ⟨a23, v23, p23, b23, r23, x23⟩ := at_index (j := j14) sl22 (e16.rep (e14.rep (e3.rep r_out))) q23
          refine g_op (i := 7) rfl rfl rfl (by kernel_rfl) rfl ⟨_, e19⟩ (fun w' ⟨I', e'⟩ => o_ix x23 rfl rfl rfl ⟨rfl, rfl⟩) (?_)
          have r24 := r23
          obtain ⟨rfl, g24⟩ := rint_in r24
          refine g_op (i := 8) rfl rfl rfl (by kernel_rfl) rfl ⟨_, e19⟩ (fun w' ⟨I', e'⟩ => o_load ty3 (Points.mono e' b23 p23) (e'.rep r24) rfl ⟨rfl, rfl⟩) (g_one (i := 9) rfl (by kernel_rfl) rfl (o_ret cc49 (Wp.c0 (h23 g24) ⟨_, _, rfl, (e19.rep r22), _, _, rfl, ⟨rfl, g24.1, g24.2⟩, rfl, rfl⟩ s19) rfl ?_))
          rintro v25 I25 w25 e25 ⟨A25, x25, s25, ⟨rfl, r25⟩, h25⟩
          replace s25 := s25.of_nil
          obtain rfl : _ = _ := r25
          refine wl_nil ⟨⟨_, (e19.trans e25)⟩, ?_⟩
          refine g_done (by kernel_rfl) (wt_cond rfl (fun c26 => ?_) (fun c26 => ?_))
          · refine wt_region (o_mov (.int .i64 n17) rfl (?_))
            have h27 := (h25.1 c26)
            refine o_addi rfl rfl h27.1 (o_asg (.int .i64 (n17 + 1)) rfl (wl_nil (wt_inBlock (wt_region (o_mov (.int .i64 (j16 : Int)) rfl (o_addi rfl rfl (inr_succ0 q16n (rep_len r_l)) (o_asg (.int .i64 ((j16 : Int) + 1)) rfl (wl_nil (?_)))))))))
            exact i16.out _ _ _ (by omega) ⟨_, _, j16 + 1, (n17 + 1), ov_self _ _ ⟨rfl, rfl, rfl, rfl, rfl, rfl, trivial⟩, rfl, q16n, ((e16.trans e19).trans e25), s25, h27.1, h27.2⟩
          · refine wt_skip (wt_inBlock (wt_region (o_mov (.int .i64 (j16 : Int)) rfl (o_addi rfl rfl (inr_succ0 q16n (rep_len r_l)) (o_asg (.int .i64 ((j16 : Int) + 1)) rfl (wl_nil (?_)))))))
            exact i16.out _ _ _ (by omega) ⟨_, _, j16 + 1, n17, ov_self _ _ ⟨rfl, rfl, rfl, rfl, rfl, rfl, trivial⟩, rfl, q16n, ((e16.trans e19).trans e25), s25, g17, (h25.2 c26)⟩
        · have y16 := k16 _ (rng_end (I := fun j => V16 j n17) l16 q16 h16) g17
          refine wt_exit rfl (wt_seq (wt_region (o_mov (.int .i64 n17) rfl (o_nev rfl rfl (o_mov (.bool (decide (¬(n17 = 1)))) rfl (wl_casen (d := 70) rfl rfl (fun c28 => ?_) (fun c28 => ?_)))))))
          · refine wl_yes rfl (o_mov u2 rfl (wl_yes rfl (o_len' (e16.rep (e14.rep (e3.rep r_l))) rfl sl38 rfl (wl_yes rfl (o_gtrv rfl rfl (o_pickt (.bool (decide (0 < (l.length : Int)))) rfl rfl (wl_nil (?_))))))))
            have h29 := ((y16.1 c28) (rep_len r_l))
            refine wt_condp rfl (fun c30 => ?_) (fun c30 => ?_)
            · refine wt_seq (wt_region (o_assign (wl_nil (?_))))
              exact ret_one Try.func34 rfl rfl ((e3.trans e14).trans e16) ⟨[], _, s16, ⟨rfl, rfl⟩, (h29.1 c30)⟩
            · refine wt_skip (wt_inBlock (wt_region (o_mov (.int .i64 (j14 : Int)) rfl (o_addi rfl rfl (inr_succ0 q14n (rep_len r_out)) (o_asg (.int .i64 ((j14 : Int) + 1)) rfl (wl_nil (?_)))))))
              exact i14.out _ _ _ (by omega) ⟨_, _, j14 + 1, ov_self _ _ ⟨rfl, rfl, rfl, rfl, trivial⟩, rfl, q14n, (e14.trans e16), s16, (h29.2 c30)⟩
          · refine wl_no rfl (wl_no rfl (wl_no rfl (o_pick0 rfl (wl_nil (wt_false rfl (wt_skip (wt_inBlock (wt_region (o_mov (.int .i64 (j14 : Int)) rfl (o_addi rfl rfl (inr_succ0 q14n (rep_len r_out)) (o_asg (.int .i64 ((j14 : Int) + 1)) rfl (wl_nil (?_)))))))))))))
            exact i14.out _ _ _ (by omega) ⟨_, _, j14 + 1, ov_self _ _ ⟨rfl, rfl, rfl, rfl, trivial⟩, rfl, q14n, (e14.trans e16), s16, (y16.2 c28)⟩
      · have y14 := k14 (rng_end (I := fun j => V14 j ) l14 q14 h14)
        refine wt_exit rfl (wt_seq (wt_seq (wt_region (o_assign (wl_nil (wt_block (?_)))))))
        obtain ⟨V31, z31, b31, k31⟩ := y14
        refine wt_loop (fun n f w31 => ∃ (g : Fr) (I31 : Reg) (j31 : Nat) , f = ov [(0, u0), (1, u1), (2, u2), (13, .int .i64 (j31 : Int))] g ∧ n = l.length - j31 ∧ j31 ≤ l.length ∧ Ext I14 w14 I31 w31 ∧ St I31 w31 T ∧ V31 j31 ) _ ⟨_, _, 0, ov_self _ _ ⟨rfl, rfl, rfl, rfl, trivial⟩, rfl, Nat.zero_le _, Ext.refl _ _, s14, z31⟩ ?_
        rintro n f w31 ⟨g, I31, j31, rfl, rfl, l31, e31, s31, h31⟩ i31
        refine wt_seq (wt_seq (wt_region (o_mov (.int .i64 (j31 : Int)) rfl (o_mov u2 rfl (o_len' (e31.rep (e14.rep (e3.rep r_l))) rfl sl38 rfl (o_lssv rfl rfl (wl_nil (wt_condp rfl (fun q31 => ?_) (fun q31 => ?_)))))))))
        · have y31 := b31 _ (rng_lt q31) h31
          have q31n := rng_lt q31
          refine wt_skip (wt_seq (wt_block (wt_seq (wt_region (o_assign (wl_nil (wt_block (?_))))))))
          obtain ⟨V33, n33, z33, b33⟩ := y31
          refine wt_loop (fun n f w33 => ∃ (g : Fr) (I33 : Reg) (j34 : Int), f = ov [(0, u0), (1, u1), (2, u2), (13, .int .i64 (j31 : Int)), (14, .int .i64 j34)] g ∧ Ext I31 w31 I33 w33 ∧ St I33 w33 T ∧ InR j34 ∧ V33 n j34) n33 ⟨_, _, 0, ov_self _ _ ⟨rfl, rfl, rfl, rfl, rfl, trivial⟩, Ext.refl _ _, s31, (inr_lit (by decide) (by decide)), z33⟩ ?_
          rintro n f w33 ⟨g, I33, j34, rfl, e33, s33, g34, h33⟩ i33
          have y33 := b33 _ _ h33 g34
          refine wt_seq (wt_seq (wt_region (o_mov (.int .i64 j34) rfl (o_mov u2 rfl (o_mov (.int .i64 (j31 : Int)) rfl (v_ix (j := j31) sl38 (e33.rep (e31.rep (e14.rep (e3.rep r_l)))) rfl rfl rfl y33 (fun q35 a35 v35 p35 b35 r35 h35 => ?_)))))))
          refine o_field fl42_1 fld_Ref42_Step_1 p35 r35 rfl (fun a36 v36 q36 p36 r36 => ?_)
          have b36 := blk_of q36 b35
          refine o_load ty22 p36 r36 rfl (?_)
          have r37 := r36
          refine o_len' r37 rfl sl22 rfl (o_lssv rfl rfl (wl_nil (?_)))
          have h38 := (h35 (rep_len r37))
          refine wt_condp rfl (fun c39 => ?_) (fun c39 => ?_)
          · refine wt_skip (wt_seq (wt_block (wt_seq (wt_seq (wt_region (o_mov u1 rfl (o_mov u2 rfl (o_mov (.int .i64 (j31 : Int)) rfl (v_ix (j := j31) sl38 (e33.rep (e31.rep (e14.rep (e3.rep r_l)))) rfl rfl rfl (h38.1 c39) (fun q40 a40 v40 p40 b40 r40 h40 => ?_))))))))))
            refine o_field fl42_1 fld_Ref42_Step_1 p40 r40 rfl (fun a41 v41 q41 p41 r41 => ?_)
            have b41 := blk_of q41 b40
            refine o_load ty22 p41 r41 rfl (?_)
            have r42 := r41
            refine o_mov (.int .i64 j34) rfl (v_il (j := (Int.toNat j34)) sl22 r42 rfl rfl (Int.toNat_of_nonneg h40.1).symm rfl ty3 h40.2 (fun q43 a43 v43 r43 h43 => ?_))
            obtain ⟨rfl, g43⟩ := rint_in r43
            refine o_ret cc49 (Wp.c0 (h43 g43) ⟨_, _, rfl, (e33.rep (e31.rep (e14.rep (e3.rep r_out)))), _, _, rfl, ⟨rfl, g43.1, g43.2⟩, rfl, rfl⟩ s33) rfl ?_
            rintro v44 I44 w44 e44 ⟨A44, x44, s44, ⟨rfl, r44⟩, h44⟩
            replace s44 := s44.of_nil
            obtain rfl : _ = _ := r44
            refine o_not rfl (wl_nil (wt_cond rfl (fun c45 => ?_) (fun c45 => ?_)))
            · refine wt_seq (wt_region (o_assign (wl_nil (?_))))
              exact ret_one Try.func34 rfl rfl ((((e3.trans e14).trans e31).trans e33).trans e44) ⟨[], _, s44, ⟨rfl, rfl⟩, (h44.1 c45)⟩
            · refine wt_skip (wt_seq (wt_region (o_mov (.int .i64 (j31 : Int)) rfl (o_addi rfl rfl (inr_succ0 q31n (rep_len r_l)) (o_asg (.int .i64 ((j31 : Int) + 1)) rfl (wl_nil (wt_block (?_))))))))
              have h46 := (h44.2 c45)
              obtain ⟨V47, n47, z47, b47⟩ := h46
              refine wt_loop (fun n f w47 => ∃ (g : Fr) (I47 : Reg) (k48 : Int), f = ov [(0, u0), (1, u1), (2, u2), (13, .int .i64 (j31 : Int)), (14, .int .i64 j34), (15, .int .i64 k48)] g ∧ Ext I44 w44 I47 w47 ∧ St I47 w47 T ∧ InR k48 ∧ V47 n k48) n47 ⟨_, _, ((j31 : Int) + 1), ov_self _ _ ⟨rfl, rfl, rfl, rfl, rfl, rfl, trivial⟩, Ext.refl _ _, s44, (inr_succ0 q31n (rep_len r_l)), z47⟩ ?_
              rintro n f w47 ⟨g, I47, k48, rfl, e47, s47, g48, h47⟩ i47
              have y47 := b47 _ _ h47 g48
              refine wt_seq (wt_seq (wt_region (o_mov (.int .i64 k48) rfl (o_mov u2 rfl (o_len' (e47.rep (e44.rep (e33.rep (e31.rep (e14.rep (e3.rep r_l)))))) rfl sl38 rfl (o_lssv rfl rfl (wl_nil (?_))))))))
              have h49 := (y47 (rep_len r_l))
              refine wt_condp rfl (fun c50 => ?_) (fun c50 => ?_)
              · refine wt_skip (wt_seq (wt_block (wt_seq (wt_drawS s47 mixed rfl (fun w51 e51 s51 => ?_)))))
                refine g_op (i := 0) rfl rfl rfl (by kernel_rfl) rfl ⟨_, e51⟩ (fun w' ⟨I', e'⟩ => o_mov u0 rfl ⟨rfl, rfl⟩) (g_op (i := 1) rfl rfl rfl (by kernel_rfl) rfl ⟨_, e51⟩ (fun w' ⟨I', e'⟩ => o_mov u2 rfl ⟨rfl, rfl⟩) (g_op (i := 2) rfl rfl rfl (by kernel_rfl) rfl ⟨_, e51⟩ (fun w' ⟨I', e'⟩ => o_mov (.int .i64 k48) rfl ⟨rfl, rfl⟩) (?_)))
                have h52 := (h49.1 c50)
                obtain ⟨q53, h53⟩ := h52.2
                obtain ⟨a53, v53, p53, b53, r53, x53⟩ := at_index (j := (Int.toNat k48)) sl38 (e47.rep (e44.rep (e33.rep (e31.rep (e14.rep (e3.rep r_l)))))) q53
                refine g_op (i := 3) rfl rfl rfl (by kernel_rfl) rfl ⟨_, e51⟩ (fun w' ⟨I', e'⟩ => o_ix x53 rfl rfl (Int.toNat_of_nonneg h52.1).symm ⟨rfl, rfl⟩) (?_)
                obtain ⟨v54, r54, p54, q54⟩ := Points.field fld_Ref42_Step_0 p53 r53
                have b54 := blk_of q54 b53
                refine g_op (i := 4) rfl rfl rfl (by kernel_rfl) rfl ⟨_, e51⟩ (fun w' ⟨I', e'⟩ => o_fl fl42_0 rfl ⟨rfl, rfl⟩) (?_)
                have r55 := r54
                obtain ⟨rfl, g55⟩ := rint_in r55
                refine g_op (i := 5) rfl rfl rfl (by kernel_rfl) rfl ⟨_, e51⟩ (fun w' ⟨I', e'⟩ => o_load ty3 (Points.mono e' b54 p54) (e'.rep r55) rfl ⟨rfl, rfl⟩) (?_)
                obtain ⟨q56, h56⟩ := (h53 g55).2
                obtain ⟨a56, v56, p56, b56, r56, x56⟩ := at_index (j := (Int.toNat ((l[(Int.toNat k48)]).Part))) sl29 (e47.rep (e44.rep (e33.rep (e31.rep (e14.rep (e3.rep r_parts)))))) q56
                refine g_op (i := 6) rfl rfl rfl (by kernel_rfl) rfl ⟨_, e51⟩ (fun w' ⟨I', e'⟩ => o_ix x56 rfl rfl (Int.toNat_of_nonneg (h53 g55).1).symm ⟨rfl, rfl⟩) (?_)
                have r57 := r56
                refine g_op (i := 7) rfl rfl rfl (by kernel_rfl) rfl ⟨_, e51⟩ (fun w' ⟨I', e'⟩ => o_load ty22 (Points.mono e' b56 p56) (e'.rep r57) rfl ⟨rfl, rfl⟩) (g_op (i := 8) rfl rfl rfl (by kernel_rfl) rfl ⟨_, e51⟩ (fun w' ⟨I', e'⟩ => o_mov u2 rfl ⟨rfl, rfl⟩) (g_op (i := 9) rfl rfl rfl (by kernel_rfl) rfl ⟨_, e51⟩ (fun w' ⟨I', e'⟩ => o_mov (.int .i64 (j31 : Int)) rfl ⟨rfl, rfl⟩) (?_)))
                obtain ⟨q58, h58⟩ := h56
                obtain ⟨a58, v58, p58, b58, r58, x58⟩ := at_index (j := j31) sl38 (e47.rep (e44.rep (e33.rep (e31.rep (e14.rep (e3.rep r_l)))))) q58
                refine g_op (i := 10) rfl rfl rfl (by kernel_rfl) rfl ⟨_, e51⟩ (fun w' ⟨I', e'⟩ => o_ix x58 rfl rfl rfl ⟨rfl, rfl⟩) (?_)
                obtain ⟨v59, r59, p59, q59⟩ := Points.field fld_Ref42_Step_1 p58 r58
                have b59 := blk_of q59 b58
                refine g_op (i := 11) rfl rfl rfl (by kernel_rfl) rfl ⟨_, e51⟩ (fun w' ⟨I', e'⟩ => o_fl fl42_1 rfl ⟨rfl, rfl⟩) (?_)
                have r60 := r59
                refine g_op (i := 12) rfl rfl rfl (by kernel_rfl) rfl ⟨_, e51⟩ (fun w' ⟨I', e'⟩ => o_load ty22 (Points.mono e' b59 p59) (e'.rep r60) rfl ⟨rfl, rfl⟩) (g_op (i := 13) rfl rfl rfl (by kernel_rfl) rfl ⟨_, e51⟩ (fun w' ⟨I', e'⟩ => o_mov (.int .i64 j34) rfl ⟨rfl, rfl⟩) (?_))
                obtain ⟨q61, h61⟩ := h58.2
                obtain ⟨a61, v61, p61, b61, r61, x61⟩ := at_index (j := (Int.toNat j34)) sl22 r60 q61
                refine g_op (i := 14) rfl rfl rfl (by kernel_rfl) rfl ⟨_, e51⟩ (fun w' ⟨I', e'⟩ => o_ix x61 rfl rfl (Int.toNat_of_nonneg h58.1).symm ⟨rfl, rfl⟩) (?_)
                have r62 := r61
                obtain ⟨rfl, g62⟩ := rint_in r62
                refine g_op (i := 15) rfl rfl rfl (by kernel_rfl) rfl ⟨_, e51⟩ (fun w' ⟨I', e'⟩ => o_load ty3 (Points.mono e' b61 p61) (e'.rep r62) rfl ⟨rfl, rfl⟩) (g_one (i := 16) rfl (by kernel_rfl) rfl (o_ret cc49 (Wp.c0 (h61 g62) ⟨_, _, rfl, (e51.rep r57), _, _, rfl, ⟨rfl, g62.1, g62.2⟩, rfl, rfl⟩ s51) rfl ?_))
                rintro v63 I63 w63 e63 ⟨A63, x63, s63, ⟨rfl, r63⟩, h63⟩
                replace s63 := s63.of_nil
                obtain rfl : _ = _ := r63
                refine wl_nil ⟨⟨_, (e51.trans e63)⟩, ?_⟩
                refine g_done (by kernel_rfl) (wt_cond rfl (fun c64 => ?_) (fun c64 => ?_))
                · refine wt_seq (wt_region (o_assign (wl_nil (?_))))
                  exact ret_one Try.func34 rfl rfl (((((((e3.trans e14).trans e31).trans e33).trans e44).trans e47).trans e51).trans e63) ⟨[], _, s63, ⟨rfl, rfl⟩, (h63.1 c64)⟩
                · refine wt_skip (wt_inBlock (wt_region (o_mov (.int .i64 k48) rfl (?_))))
                  have h65 := (h63.2 c64)
                  refine o_addi rfl rfl h65.1 (o_asg (.int .i64 (k48 + 1)) rfl (wl_nil (?_)))
                  obtain ⟨n47, m47, z47⟩ := h65.2
                  exact i47.out _ _ _ m47 ⟨_, _, (k48 + 1), ov_self _ _ ⟨rfl, rfl, rfl, rfl, rfl, rfl, trivial⟩, ((e47.trans e51).trans e63), s63, h65.1, z47⟩
              · refine wt_exit rfl (wt_inBlock (wt_region (o_mov (.int .i64 j34) rfl (?_))))
                have h66 := (h49.2 c50)
                refine o_addi rfl rfl h66.1 (o_asg (.int .i64 (j34 + 1)) rfl (wl_nil (?_)))
                obtain ⟨n33, m33, z33⟩ := h66.2
                exact i33.out _ _ _ m33 ⟨_, _, (j34 + 1), ov_self _ _ ⟨rfl, rfl, rfl, rfl, rfl, trivial⟩, ((e33.trans e44).trans e47), s47, h66.1, z33⟩
          · refine wt_exit rfl (wt_inBlock (wt_region (o_mov (.int .i64 (j31 : Int)) rfl (o_addi rfl rfl (inr_succ0 q31n (rep_len r_l)) (o_asg (.int .i64 ((j31 : Int) + 1)) rfl (wl_nil (?_)))))))
            exact i31.out _ _ _ (by omega) ⟨_, _, j31 + 1, ov_self _ _ ⟨rfl, rfl, rfl, rfl, trivial⟩, rfl, q31n, (e31.trans e33), s33, (h38.2 c39)⟩
        · have y31 := k31 (rng_end (I := fun j => V31 j ) l31 q31 h31)
          refine wt_exit rfl (wt_seq (wt_region (o_assign (wl_nil (?_)))))
          exact ret_one Try.func34 rfl rfl ((e3.trans e14).trans e31) ⟨[], _, s31, ⟨rfl, rfl⟩, y31⟩

def sched_Live_1  (y0_ : List Int) (x0_ : List Int) (behind : List Int) (Q : ((List Int) × (Unit)) → Prop) : Prop := Wp Try.prog 51 (sCap (boxO 22) (sD (sD sN))) (y0_, x0_, behind, ()) (rCap (boxO 22) rU) Q
def sched_Live_1_v  (y0_ : List Int) (x0_ : List Int) (behind : List Int) (Q : ((List Int) × (Unit)) → Prop) : Prop := (behind.length ≤ 9223372036854775807 → ((y0_.length + 1) * 8 ≤ 140737488355328 ∧ Q ((y0_ ++ [(behind.length : Int)]), ())))
theorem sched_Live_1_w  {y0_ : List Int} {x0_ : List Int} {behind : List Int} {Q : ((List Int) × (Unit)) → Prop} (h : sched_Live_1_v y0_ x0_ behind Q) : sched_Live_1 y0_ x0_ behind Q := by
  rintro I w T A vs ⟨by0_, _, _, _, rfl, rfl, ⟨vy0_, Ay0_, rfl, oy0_⟩, ⟨u0, _, rfl, (r_x0_ : rep I w u0 x0_), u1, _, rfl, (r_behind : rep I w u1 behind), rfl, rfl⟩⟩ s0
  simp only [List.append_assoc, List.nil_append] at s0
  refine ret_of_wt Try.func51 rfl Try.ntmps51 rfl ?_
  refine wt_region (o_loadO (v := vy0_) ty22 s0 rfl rfl (o_mov u1 rfl (o_len' r_behind rfl sl22 rfl (?_))))
  have s2 := s0.rot1
  refine v_app1 sl22 rfl rfl rfl s2 oy0_ ⟨rfl, (inr_len (rep_len r_behind)).1, (inr_len (rep_len r_behind)).2⟩ rfl rfl (h (rep_len r_behind)) rfl (fun u1 v1 A1 I1 w1 e1 s1 o1 l1 h1 => ?_)
  have s4 := s1.rot1
  refine o_storeX (cs' := #[v1]) ty22 s4 rfl rfl o1.one rfl rfl (fun w3 e3 s3 => ?_)
  refine wl_nil (?_)
  exact ret_end_none Try.func51 rfl (e1.trans e3) ⟨([(by0_, .cells #[v1] 22 (0, 0))] ++ (A1)) ++ ([]), ((y0_ ++ [(behind.length : Int)]), ()), (by simpa only [List.append_assoc, List.nil_append, List.append_nil] using s3), ⟨_, _, _, rfl, rfl, ⟨_, _, rfl, (o1.mono e3)⟩, ⟨rfl, rfl⟩⟩, h1⟩

def sched_Live  (parts : List (List Int)) (out : List Int) (l : List Sched_Step) (Q : List Int → Prop) : Prop := Wp Try.prog 35 (sD (sD (sD sN))) (parts, out, l, ()) rO Q
def sched_Live_v  (parts : List (List Int)) (out : List Int) (l : List Sched_Step) (Q : List Int → Prop) : Prop := sched_live parts l (envB 51 #[] #[] (boxO 22)) (fun (a : (List Int) × (List Int) × (List Int) × Unit) Q => sched_Live_1 a.1 a.2.1 a.2.2.1 Q) ([] : List Int) (fun x2 => Q x2.1)
theorem sched_Live_w  {parts : List (List Int)} {out : List Int} {l : List Sched_Step} {Q : List Int → Prop} (h : sched_Live_v parts out l Q) : sched_Live parts out l Q := by
  rintro I w T A vs ⟨u0, _, rfl, (r_parts : rep I w u0 parts), u1, _, rfl, (r_out : rep I w u1 out), u2, _, rfl, (r_l : rep I w u2 l), rfl, rfl⟩ s0
  refine ret_of_wt Try.func35 rfl Try.ntmps35 rfl ?_
  refine wt_seq (wt_region (o_assign (wl_nil (wt_seq (wt_region (o_allocO (z := .slice none 0 0) (cs := #[.slice none 0 0]) s0 zr22 rfl (fun bk7 w1 e1 s1 => ?_)))))))
  refine wl_nil (wt_seq (wt_region (o_mov u0 rfl (o_mov u2 rfl (o_makeFunc (vs := []) (us := [.pointer (some ⟨bk7, 0, none⟩)]) rfl rfl (o_ret cc50 (Wp.cA h ⟨_, _, rfl, (e1.rep r_parts), _, _, rfl, (e1.rep r_l), _, _, [(bk7, .cells #[.slice none 0 0] 22 (0, 0))], _, rfl, rfl, (Fc.box (F := fun (a : (List Int) × (List Int) × (List Int) × Unit) Q => sched_Live_1 a.1 a.2.1 a.2.2.1 Q) cc51 (Fc.nil (fun a Q h => h))), (envB.mono (fun e h => boxO.mono e h)), ⟨_, rfl, ⟨_, [], rfl, OwnSl.nil⟩⟩, rfl, rfl⟩ (by simpa only [List.append_assoc, List.nil_append, List.append_nil] using s1)) rfl ?_))))))
  rintro v2 I2 w2 e2 ⟨_, x2, s2, ⟨v2_, A2_1, A2_2, hv2, rfl, ⟨b2, hb2, ob2⟩, ⟨rfl, rfl⟩⟩, h2⟩
  obtain rfl := Option.some.inj hv2
  obtain rfl : bk7 = b2 := by simpa using hb2
  obtain ⟨v2_e, A2_e, rfl, o2_e⟩ := ob2
  simp only [List.append_assoc, List.nil_append] at s2
  refine wl_nil (wt_seq (wt_region (o_loadO (v := v2_e) ty22 s2 rfl rfl (o_asg v2_e rfl (wl_nil (?_))))))
  exact ret_one Try.func35 rfl rfl (e1.trans e2) ⟨A2_e, _, s2.drop, o2_e, h2⟩

def ref42_part  (parts : List (List Int)) (p : Int) (Q : List Int → Prop) : Prop := Wp Try.prog 54 (sD (sD sN)) (parts, p, ()) rO Q
def ref42_part_v  (parts : List (List Int)) (p : Int) (Q : List Int → Prop) : Prop := (((p < 0) → Q ([] : List Int)) ∧ (¬(p < 0) → (parts.length ≤ 9223372036854775807 → ((((parts.length : Int) ≤ p) → Q ([] : List Int)) ∧ (¬((parts.length : Int) ≤ p) → ((0 : Int) ≤ p) ∧ ((∃ q4 : (Int.toNat p) < parts.length, ref42_set (parts[(Int.toNat p)]) (fun (x5 : List Int) => Q x5))))))))
theorem ref42_part_w  {parts : List (List Int)} {p : Int} {Q : List Int → Prop} (h : InR p → ref42_part_v parts p Q) : ref42_part parts p Q := by
  rintro I w T A vs ⟨u0, _, rfl, (r_parts : rep I w u0 parts), u1, _, rfl, (r_p : rep I w u1 p), rfl, rfl⟩ s0
  obtain ⟨rfl, g_p⟩ := rint_in r_p
  replace h := h g_p
  refine ret_of_wt Try.func54 rfl Try.ntmps54 rfl ?_
  refine wt_seq (wt_region (o_assign (wl_nil (wt_seq (wt_seq (wt_region (o_mov (.int .i64 p) rfl (o_lssv rfl rfl (o_mov (.bool (decide (p < 0))) rfl (wl_casep (d := 7) rfl rfl (fun c1 => ?_) (fun c1 => ?_)))))))))))
  · refine wl_no rfl (wl_no rfl (wl_no rfl (wl_no rfl (o_pick1 rfl (wl_nil (wt_true rfl (wt_seq (wt_region (o_assign (wl_nil (?_)))))))))))
    exact ret_one Try.func54 rfl rfl (Ext.refl _ _) ⟨[], _, s0, OwnSl.nil, (h.1 c1)⟩
  · refine wl_yes rfl (o_mov (.int .i64 p) rfl (wl_yes rfl (o_mov u0 rfl (wl_yes rfl (o_len' r_parts rfl sl29 rfl (wl_yes rfl (o_geqv rfl rfl (o_pickf (.bool (decide ((parts.length : Int) ≤ p))) rfl rfl (wl_nil (?_))))))))))
    have h2 := ((h.2 c1) (rep_len r_parts))
    refine wt_condp rfl (fun c3 => ?_) (fun c3 => ?_)
    · refine wt_seq (wt_region (o_assign (wl_nil (?_))))
      exact ret_one Try.func54 rfl rfl (Ext.refl _ _) ⟨[], _, s0, OwnSl.nil, (h2.1 c3)⟩
    · refine wt_skip (wt_seq (wt_region (o_mov u0 rfl (o_mov (.int .i64 p) rfl (v_il (j := (Int.toNat p)) sl29 r_parts rfl rfl (Int.toNat_of_nonneg (h2.2 c3).1).symm rfl ty22 (h2.2 c3).2 (fun q4 a4 v4 r4 h4 => ?_))))))
      refine o_ret cc46 (Wp.c0 h4 ⟨_, _, rfl, r4, rfl, rfl⟩ s0) rfl ?_
      rintro v5 I5 w5 e5 ⟨A5, x5, s5, o5, h5⟩
      refine o_asg v5 rfl (wl_nil (?_))
      exact ret_one Try.func54 rfl rfl e5 ⟨A5, _, s5, o5, h5⟩

def ref42_live  (parts : List (List Int)) (l : List Ref42_Step) (many : Int) (Q : List Int → Prop) : Prop := Wp Try.prog 52 (sD (sD (sD sN))) (parts, l, many, ()) rO Q
def ref42_live_v  (parts : List (List Int)) (l : List Ref42_Step) (many : Int) (Q : List Int → Prop) : Prop := Rng1 (Int.toNat many) (fun j1 q1 V1 (was2 : List Int) => (∃ q5 : j1 < l.length, (InR ((l[j1]).Part) → ref42_part parts ((l[j1]).Part) (fun (x8 : List Int) => ((was2.length + x8.length) * 8 ≤ 140737488355328) ∧ (V1 (was2 ++ x8)))))) (fun (was2 : List Int) => ref42_set was2 (fun (x12 : List Int) => Rng1 x12.length (fun j15 q15 V15 (out17 : List Int) => Rng1 (Int.toNat many) (fun j19 q19 V19 (gone20 : Bool) => ((gone20 = true → V19 true) ∧ (gone20 = false → (∃ q24 : j19 < l.length, (∃ q27 : j15 < x12.length, (InR (x12[j15]) → ref42_In ((l[j19]).Out) (x12[j15]) (fun (x29 : Bool) => V19 x29))))))) (fun (gone20 : Bool) => (((!gone20) = true → (∃ q31 : j15 < x12.length, (InR (x12[j15]) → ((out17.length + 1) * 8 ≤ 140737488355328 ∧ V15 (out17 ++ [(x12[j15])]))))) ∧ ((!gone20) = false → V15 out17))) false) (fun (out17 : List Int) => Q out17) [])) []
set_option maxHeartbeats 4000000 in
theorem ref42_live_w  {parts : List (List Int)} {l : List Ref42_Step} {many : Int} {Q : List Int → Prop} (h : InR many → ref42_live_v parts l many Q) : ref42_live parts l many Q := by
  rintro I w T A vs ⟨u0, _, rfl, (r_parts : rep I w u0 parts), u1, _, rfl, (r_l : rep I w u1 l), u2, _, rfl, (r_many : rep I w u2 many), rfl, rfl⟩ s0
  obtain ⟨rfl, g_many⟩ := rint_in r_many
  replace h := h g_many
  refine ret_of_wt Try.func52 rfl Try.ntmps52 rfl ?_
  refine wt_seq (wt_region (o_assign (wl_nil (wt_seq (wt_region (o_assign (wl_nil (wt_seq (wt_seq (wt_region (o_assign (wl_nil (wt_block (?_))))))))))))))
  obtain ⟨V1, z1, b1, k1⟩ := h
  refine wt_loop (fun n f w1 => ∃ (g : Fr) (I1 : Reg) (j1 : Nat) (A2 : Own) (v2 : Value) (was2 : List Int), f = ov [(0, u0), (1, u1), (2, .int .i64 many), (7, v2), (8, .int .i64 (j1 : Int))] g ∧ n = (Int.toNat many) - j1 ∧ j1 ≤ (Int.toNat many) ∧ Ext I w I1 w1 ∧ St I1 w1 (A2 ++ T) ∧ OwnSl I1 w1 A2 v2 was2 ∧ V1 j1 was2) _ ⟨_, _, 0, [], (.slice none 0 0), [], ov_self _ _ ⟨rfl, rfl, rfl, rfl, rfl, trivial⟩, rfl, Nat.zero_le _, Ext.refl _ _, s0, OwnSl.nil, z1⟩ ?_
  rintro n f w1 ⟨g, I1, j1, A2, v2, was2, rfl, rfl, l1, e1, s1, o2, h1⟩ i1
  refine wt_seq (wt_seq (wt_region (o_mov (.int .i64 (j1 : Int)) rfl (o_mov (.int .i64 many) rfl (o_lssv rfl rfl (wl_nil (wt_condp rfl (fun q1 => ?_) (fun q1 => ?_))))))))
  · have y1 := b1 _ (rng_ltI q1) _ h1
    have q1n := rng_ltI q1
    refine wt_skip (wt_seq (wt_block (wt_region (o_mov v2 rfl (o_mov u0 rfl (o_mov u1 rfl (o_mov (.int .i64 (j1 : Int)) rfl (v_ix (j := j1) sl38 (e1.rep r_l) rfl rfl rfl y1 (fun q5 a5 v5 p5 b5 r5 h5 => ?_)))))))))
    refine o_field fl42_0 fld_Ref42_Step_0 p5 r5 rfl (fun a6 v6 q6 p6 r6 => ?_)
    have b6 := blk_of q6 b5
    refine o_load ty3 p6 r6 rfl (?_)
    have r7 := r6
    obtain ⟨rfl, g7⟩ := rint_in r7
    refine o_ret cc54 (Wp.c0 (h5 g7) ⟨_, _, rfl, (e1.rep r_parts), _, _, rfl, ⟨rfl, g7.1, g7.2⟩, rfl, rfl⟩ s1) rfl ?_
    rintro v8 I8 w8 e8 ⟨A8, x8, s8, o8, h8⟩
    obtain ⟨I10, e10, s10, r10⟩ := OwnSl.freeze o8 s8
    refine o_append sl22 s10 ((o2.mono e8).mono e10) r10 rfl rfl h8.1 (app_le h8.1) (fun v9 A9 w9 e9 s9 o9 => ?_)
    refine o_asg v9 rfl (wl_nil (wt_inBlock (wt_region (o_mov (.int .i64 (j1 : Int)) rfl (o_addi rfl rfl (inr_succ0 q1n (inr_toNat g_many)) (o_asg (.int .i64 ((j1 : Int) + 1)) rfl (wl_nil (?_))))))))
    exact i1.out _ _ _ (by omega) ⟨_, _, j1 + 1, A9, v9, (was2 ++ x8), ov_self _ _ ⟨rfl, rfl, rfl, rfl, rfl, trivial⟩, rfl, q1n, (((e1.trans e8).trans e10).trans e9), s9, o9, h8.2⟩
  · have y1 := k1 _ (rng_endI (I := fun j => V1 j was2) l1 q1 h1)
    refine wt_exit rfl (wt_seq (wt_region (o_mov v2 rfl (?_))))
    obtain ⟨e11, s11, r11⟩ := OwnSl.lend o2 s1
    refine o_ret cc46 (Wp.c0 y1 ⟨_, _, rfl, r11, rfl, rfl⟩ s11) rfl ?_
    rintro v12 I12 w12 e12 ⟨A12, x12, s12, o12, h12⟩
    obtain ⟨I13, e13, s13⟩ := St.back2 s1 e12 s12
    replace o12 := o12.flatI (I' := I13) (w' := w12)
    refine o_asg v12 rfl (wl_nil (wt_seq (wt_region (o_assign (wl_nil (wt_seq (wt_seq (wt_region (o_assign (wl_nil (wt_block (?_))))))))))))
    obtain ⟨I14, e14, s14, r14⟩ := OwnSl.freeze o12 s13
    obtain ⟨V15, z15, b15, k15⟩ := h12
    refine wt_loop (fun n f w15 => ∃ (g : Fr) (I15 : Reg) (j15 : Nat) (A17 : Own) (v17 : Value) (out17 : List Int), f = ov [(1, u1), (2, .int .i64 many), (7, v12), (9, v17), (10, .int .i64 (j15 : Int))] g ∧ n = x12.length - j15 ∧ j15 ≤ x12.length ∧ Ext I14 w12 I15 w15 ∧ St I15 w15 (A17 ++ T) ∧ OwnSl I15 w15 A17 v17 out17 ∧ V15 j15 out17) _ ⟨_, _, 0, [], (.slice none 0 0), [], ov_self _ _ ⟨rfl, rfl, rfl, rfl, rfl, trivial⟩, rfl, Nat.zero_le _, Ext.refl _ _, s14.drop, OwnSl.nil, z15⟩ ?_
    rintro n f w15 ⟨g, I15, j15, A17, v17, out17, rfl, rfl, l15, e15, s15, o17, h15⟩ i15
    refine wt_seq (wt_seq (wt_region (o_mov (.int .i64 (j15 : Int)) rfl (o_mov v12 rfl (o_len' (e15.rep r14) rfl sl22 rfl (o_lssv rfl rfl (wl_nil (wt_condp rfl (fun q15 => ?_) (fun q15 => ?_)))))))))
    · have y15 := b15 _ (rng_lt q15) _ h15
      have q15n := rng_lt q15
      refine wt_skip (wt_seq (wt_block (wt_seq (wt_region (o_assign (wl_nil (wt_seq (wt_seq (wt_region (o_assign (wl_nil (wt_block (?_)))))))))))))
      obtain ⟨V19, z19, b19, k19⟩ := y15
      refine wt_loop (fun n f w19 => ∃ (g : Fr) (I19 : Reg) (j19 : Nat) (gone20 : Bool), f = ov [(1, u1), (2, .int .i64 many), (7, v12), (9, v17), (10, .int .i64 (j15 : Int)), (11, .bool gone20), (12, .int .i64 (j19 : Int))] g ∧ n = (Int.toNat many) - j19 ∧ j19 ≤ (Int.toNat many) ∧ Ext I15 w15 I19 w19 ∧ St I19 w19 (A17 ++ T) ∧ V19 j19 gone20) _ ⟨_, _, 0, false, ov_self _ _ ⟨rfl, rfl, rfl, rfl, rfl, rfl, rfl, trivial⟩, rfl, Nat.zero_le _, Ext.refl _ _, s15, z19⟩ ?_
      rintro n f w19 ⟨g, I19, j19, gone20, rfl, rfl, l19, e19, s19, h19⟩ i19
      refine wt_seq (wt_seq (wt_region (o_mov (.int .i64 (j19 : Int)) rfl (o_mov (.int .i64 many) rfl (o_lssv rfl rfl (wl_nil (wt_condp rfl (fun q19 => ?_) (fun q19 => ?_))))))))
      · have y19 := b19 _ (rng_ltI q19) _ h19
        have q19n := rng_ltI q19
        refine wt_skip (wt_seq (wt_block (wt_drawS s19 mixed rfl (fun w22 e22 s22 => ?_))))
        refine g_op (i := 0) rfl rfl rfl (by kernel_rfl) rfl ⟨_, e22⟩ (fun w' ⟨I', e'⟩ => o_mov (.bool gone20) rfl ⟨rfl, rfl⟩) (g_op (i := 1) rfl rfl rfl (by kernel_rfl) rfl ⟨_, e22⟩ (fun w' ⟨I', e'⟩ => o_mov (.bool gone20) rfl ⟨rfl, rfl⟩) (wg_caseb (d := 41) rfl rfl (fun c23 => ?_) (fun c23 => ?_)))
        · refine g_op (i := 2) rfl rfl rfl (by kernel_rfl) rfl ⟨_, e22⟩ (fun w' ⟨I', e'⟩ => wl_no rfl ⟨rfl, rfl⟩) (g_op (i := 3) rfl rfl rfl (by kernel_rfl) rfl ⟨_, e22⟩ (fun w' ⟨I', e'⟩ => wl_no rfl ⟨rfl, rfl⟩) (g_op (i := 4) rfl rfl rfl (by kernel_rfl) rfl ⟨_, e22⟩ (fun w' ⟨I', e'⟩ => wl_no rfl ⟨rfl, rfl⟩) (g_op (i := 5) rfl rfl rfl (by kernel_rfl) rfl ⟨_, e22⟩ (fun w' ⟨I', e'⟩ => wl_no rfl ⟨rfl, rfl⟩) (g_op (i := 6) rfl rfl rfl (by kernel_rfl) rfl ⟨_, e22⟩ (fun w' ⟨I', e'⟩ => wl_no rfl ⟨rfl, rfl⟩) (g_op (i := 7) rfl rfl rfl (by kernel_rfl) rfl ⟨_, e22⟩ (fun w' ⟨I', e'⟩ => wl_no rfl ⟨rfl, rfl⟩) (g_op (i := 8) rfl rfl rfl (by kernel_rfl) rfl ⟨_, e22⟩ (fun w' ⟨I', e'⟩ => wl_no rfl ⟨rfl, rfl⟩) (g_op (i := 9) rfl rfl rfl (by kernel_rfl) rfl ⟨_, e22⟩ (fun w' ⟨I', e'⟩ => wl_no rfl ⟨rfl, rfl⟩) (g_op (i := 10) rfl rfl rfl (by kernel_rfl) rfl ⟨_, e22⟩ (fun w' ⟨I', e'⟩ => wl_no rfl ⟨rfl, rfl⟩) (g_op (i := 11) rfl rfl rfl (by kernel_rfl) rfl ⟨_, e22⟩ (fun w' ⟨I', e'⟩ => wl_no rfl ⟨rfl, rfl⟩) (g_op (i := 12) rfl rfl rfl (by kernel_rfl) rfl ⟨_, e22⟩ (fun w' ⟨I', e'⟩ => o_pick1 rfl ⟨rfl, rfl⟩) (g_op (i := 13) rfl rfl rfl (by kernel_rfl) rfl ⟨_, e22⟩ (fun w' ⟨I', e'⟩ => o_asg (.bool true) rfl ⟨rfl, rfl⟩) (g_done (by kernel_rfl) (wt_inBlock (wt_region (o_mov (.int .i64 (j19 : Int)) rfl (o_addi rfl rfl (inr_succ0 q19n (inr_toNat g_many)) (o_asg (.int .i64 ((j19 : Int) + 1)) rfl (wl_nil (?_)))))))))))))))))))
          exact i19.out _ _ _ (by omega) ⟨_, _, j19 + 1, true, ov_self _ _ ⟨rfl, rfl, rfl, rfl, rfl, rfl, rfl, trivial⟩, rfl, q19n, (e19.trans e22), s22, (y19.1 c23)⟩
        · refine g_op (i := 2) rfl rfl rfl (by kernel_rfl) rfl ⟨_, e22⟩ (fun w' ⟨I', e'⟩ => wl_yes rfl (o_mov u1 rfl ⟨rfl, rfl⟩)) (g_op (i := 3) rfl rfl rfl (by kernel_rfl) rfl ⟨_, e22⟩ (fun w' ⟨I', e'⟩ => wl_yes rfl (o_mov (.int .i64 (j19 : Int)) rfl ⟨rfl, rfl⟩)) (?_))
          obtain ⟨q24, h24⟩ := (y19.2 c23)
          obtain ⟨a24, v24, p24, b24, r24, x24⟩ := at_index (j := j19) sl38 (e19.rep (e15.rep (e14.rep (e13.rep (e1.rep r_l))))) q24
          refine g_op (i := 4) rfl rfl rfl (by kernel_rfl) rfl ⟨_, e22⟩ (fun w' ⟨I', e'⟩ => wl_yes rfl (o_ix x24 rfl rfl rfl ⟨rfl, rfl⟩)) (?_)
          obtain ⟨v25, r25, p25, q25⟩ := Points.field fld_Ref42_Step_1 p24 r24
          have b25 := blk_of q25 b24
          refine g_op (i := 5) rfl rfl rfl (by kernel_rfl) rfl ⟨_, e22⟩ (fun w' ⟨I', e'⟩ => wl_yes rfl (o_fl fl42_1 rfl ⟨rfl, rfl⟩)) (?_)
          have r26 := r25
          refine g_op (i := 6) rfl rfl rfl (by kernel_rfl) rfl ⟨_, e22⟩ (fun w' ⟨I', e'⟩ => wl_yes rfl (o_load ty22 (Points.mono e' b25 p25) (e'.rep r26) rfl ⟨rfl, rfl⟩)) (g_op (i := 7) rfl rfl rfl (by kernel_rfl) rfl ⟨_, e22⟩ (fun w' ⟨I', e'⟩ => wl_yes rfl (o_mov v12 rfl ⟨rfl, rfl⟩)) (g_op (i := 8) rfl rfl rfl (by kernel_rfl) rfl ⟨_, e22⟩ (fun w' ⟨I', e'⟩ => wl_yes rfl (o_mov (.int .i64 (j15 : Int)) rfl ⟨rfl, rfl⟩)) (?_)))
          obtain ⟨q27, h27⟩ := h24
          obtain ⟨a27, v27, p27, b27, r27, x27⟩ := at_index (j := j15) sl22 (e19.rep (e15.rep r14)) q27
          refine g_op (i := 9) rfl rfl rfl (by kernel_rfl) rfl ⟨_, e22⟩ (fun w' ⟨I', e'⟩ => wl_yes rfl (o_ix x27 rfl rfl rfl ⟨rfl, rfl⟩)) (?_)
          have r28 := r27
          obtain ⟨rfl, g28⟩ := rint_in r28
          refine g_op (i := 10) rfl rfl rfl (by kernel_rfl) rfl ⟨_, e22⟩ (fun w' ⟨I', e'⟩ => wl_yes rfl (o_load ty3 (Points.mono e' b27 p27) (e'.rep r28) rfl ⟨rfl, rfl⟩)) (g_one (i := 11) rfl (by kernel_rfl) rfl (wl_yes rfl (o_ret cc49 (Wp.c0 (h27 g28) ⟨_, _, rfl, (e22.rep r26), _, _, rfl, ⟨rfl, g28.1, g28.2⟩, rfl, rfl⟩ s22) rfl ?_)))
          rintro v29 I29 w29 e29 ⟨A29, x29, s29, ⟨rfl, r29⟩, h29⟩
          replace s29 := s29.of_nil
          obtain rfl : _ = _ := r29
          refine wl_nil ⟨⟨_, (e22.trans e29)⟩, ?_⟩
          refine g_op (i := 12) rfl rfl rfl (by kernel_rfl) rfl ⟨_, (e22.trans e29)⟩ (fun w' ⟨I', e'⟩ => o_pickf (.bool x29) rfl rfl ⟨rfl, rfl⟩) (g_op (i := 13) rfl rfl rfl (by kernel_rfl) rfl ⟨_, (e22.trans e29)⟩ (fun w' ⟨I', e'⟩ => o_asg (.bool x29) rfl ⟨rfl, rfl⟩) (g_done (by kernel_rfl) (wt_inBlock (wt_region (o_mov (.int .i64 (j19 : Int)) rfl (o_addi rfl rfl (inr_succ0 q19n (inr_toNat g_many)) (o_asg (.int .i64 ((j19 : Int) + 1)) rfl (wl_nil (?_)))))))))
          exact i19.out _ _ _ (by omega) ⟨_, _, j19 + 1, x29, ov_self _ _ ⟨rfl, rfl, rfl, rfl, rfl, rfl, rfl, trivial⟩, rfl, q19n, ((e19.trans e22).trans e29), s29, h29⟩
      · have y19 := k19 _ (rng_endI (I := fun j => V19 j gone20) l19 q19 h19)
        refine wt_exit rfl (wt_seq (wt_region (o_mov (.bool gone20) rfl (o_not rfl (wl_nil (wt_cond rfl (fun c30 => ?_) (fun c30 => ?_)))))))
        · refine wt_region (o_mov v17 rfl (o_mov v12 rfl (o_mov (.int .i64 (j15 : Int)) rfl (v_il (j := j15) sl22 (e19.rep (e15.rep r14)) rfl rfl rfl rfl ty3 (y19.1 c30) (fun q31 a31 v31 r31 h31 => ?_)))))
          obtain ⟨rfl, g31⟩ := rint_in r31
          refine v_app1 sl22 rfl rfl rfl s19 (o17.mono e19) ⟨rfl, g31.1, g31.2⟩ rfl rfl (h31 g31) rfl (fun u32 v32 A32 I32 w32 e32 s32 o32 l32 h32 => ?_)
          refine o_asg v32 rfl (wl_nil (wt_inBlock (wt_region (o_mov (.int .i64 (j15 : Int)) rfl (o_addi rfl rfl (inr_succ0 q15n o12.bd) (o_asg (.int .i64 ((j15 : Int) + 1)) rfl (wl_nil (?_))))))))
          exact i15.out _ _ _ (by omega) ⟨_, _, j15 + 1, A32, v32, (out17 ++ [(x12[j15])]), ov_self _ _ ⟨rfl, rfl, rfl, rfl, rfl, trivial⟩, rfl, q15n, ((e15.trans e19).trans e32), s32, o32, h32⟩
        · refine wt_skip (wt_inBlock (wt_region (o_mov (.int .i64 (j15 : Int)) rfl (o_addi rfl rfl (inr_succ0 q15n o12.bd) (o_asg (.int .i64 ((j15 : Int) + 1)) rfl (wl_nil (?_)))))))
          exact i15.out _ _ _ (by omega) ⟨_, _, j15 + 1, A17, v17, out17, ov_self _ _ ⟨rfl, rfl, rfl, rfl, rfl, trivial⟩, rfl, q15n, (e15.trans e19), s19, (o17.mono e19), (y19.2 c30)⟩
    · have y15 := k15 _ (rng_end (I := fun j => V15 j out17) l15 q15 h15)
      refine wt_exit rfl (wt_seq (wt_region (o_mov v17 rfl (o_asg v17 rfl (wl_nil (?_))))))
      exact ret_one Try.func52 rfl rfl (((e1.trans e13).trans e14).trans e15) ⟨A17, _, s15, o17, y15⟩

def ref42_Live  (parts : List (List Int)) (l : List Ref42_Step) (Q : List Int → Prop) : Prop := Wp Try.prog 36 (sD (sD sN)) (parts, l, ()) rO Q
def ref42_Live_v  (parts : List (List Int)) (l : List Ref42_Step) (Q : List Int → Prop) : Prop := Rng1 l.length (fun j1 q1 V1 (out2 : List Int) => ref42_live parts l ((j1 : Int) + 1) (fun (x5 : List Int) => (x5.length ≤ 9223372036854775807 → ((out2.length + 1) * 8 ≤ 140737488355328 ∧ V1 (out2 ++ [(x5.length : Int)]))))) (fun (out2 : List Int) => Q out2) []
theorem ref42_Live_w  {parts : List (List Int)} {l : List Ref42_Step} {Q : List Int → Prop} (h : ref42_Live_v parts l Q) : ref42_Live parts l Q := by
  rintro I w T A vs ⟨u0, _, rfl, (r_parts : rep I w u0 parts), u1, _, rfl, (r_l : rep I w u1 l), rfl, rfl⟩ s0
  refine ret_of_wt Try.func36 rfl Try.ntmps36 rfl ?_
  refine wt_seq (wt_region (o_assign (wl_nil (wt_seq (wt_region (o_assign (wl_nil (wt_seq (wt_seq (wt_region (o_assign (wl_nil (wt_block (?_))))))))))))))
  obtain ⟨V1, z1, b1, k1⟩ := h
  refine wt_loop (fun n f w1 => ∃ (g : Fr) (I1 : Reg) (j1 : Nat) (A2 : Own) (v2 : Value) (out2 : List Int), f = ov [(0, u0), (1, u1), (5, v2), (6, .int .i64 (j1 : Int))] g ∧ n = l.length - j1 ∧ j1 ≤ l.length ∧ Ext I w I1 w1 ∧ St I1 w1 (A2 ++ T) ∧ OwnSl I1 w1 A2 v2 out2 ∧ V1 j1 out2) _ ⟨_, _, 0, [], (.slice none 0 0), [], ov_self _ _ ⟨rfl, rfl, rfl, rfl, trivial⟩, rfl, Nat.zero_le _, Ext.refl _ _, s0, OwnSl.nil, z1⟩ ?_
  rintro n f w1 ⟨g, I1, j1, A2, v2, out2, rfl, rfl, l1, e1, s1, o2, h1⟩ i1
  refine wt_seq (wt_seq (wt_region (o_mov (.int .i64 (j1 : Int)) rfl (o_mov u1 rfl (o_len' (e1.rep r_l) rfl sl38 rfl (o_lssv rfl rfl (wl_nil (wt_condp rfl (fun q1 => ?_) (fun q1 => ?_)))))))))
  · have y1 := b1 _ (rng_lt q1) _ h1
    have q1n := rng_lt q1
    refine wt_skip (wt_seq (wt_block (wt_region (o_mov v2 rfl (o_mov u0 rfl (o_mov u1 rfl (o_mov (.int .i64 (j1 : Int)) rfl (o_addi rfl rfl (inr_succ0 q1n (rep_len r_l)) (o_ret cc52 (Wp.c0 y1 ⟨_, _, rfl, (e1.rep r_parts), _, _, rfl, (e1.rep r_l), _, _, rfl, ⟨rfl, (inr_succ0 q1n (rep_len r_l)).1, (inr_succ0 q1n (rep_len r_l)).2⟩, rfl, rfl⟩ s1) rfl ?_)))))))))
    rintro v5 I5 w5 e5 ⟨A5, x5, s5, o5, h5⟩
    refine o_lenO o5 rfl sl22 rfl (?_)
    have s7 := s5.rot1
    refine v_app1 sl22 rfl rfl rfl s7 (o2.mono e5) ⟨rfl, (inr_len o5.bd).1, (inr_len o5.bd).2⟩ rfl rfl (h5 o5.bd) rfl (fun u6 v6 A6 I6 w6 e6 s6 o6 l6 h6 => ?_)
    refine o_asg v6 rfl (wl_nil (wt_inBlock (wt_region (o_mov (.int .i64 (j1 : Int)) rfl (o_addi rfl rfl (inr_succ0 q1n (rep_len r_l)) (o_asg (.int .i64 ((j1 : Int) + 1)) rfl (wl_nil (?_))))))))
    have s8 := s6.rot1
    exact i1.out _ _ _ (by omega) ⟨_, _, j1 + 1, A6, v6, (out2 ++ [(x5.length : Int)]), ov_self _ _ ⟨rfl, rfl, rfl, rfl, trivial⟩, rfl, q1n, ((e1.trans e5).trans e6), s8.drop, o6, h6⟩
  · have y1 := k1 _ (rng_end (I := fun j => V1 j out2) l1 q1 h1)
    refine wt_exit rfl (wt_seq (wt_region (o_mov v2 rfl (o_asg v2 rfl (wl_nil (?_))))))
    exact ret_one Try.func36 rfl rfl e1 ⟨A2, _, s1, o2, y1⟩

def ref42_Widest  (parts : List (List Int)) (l : List Ref42_Step) (Q : Int → Prop) : Prop := Wp Try.prog 38 (sD (sD sN)) (parts, l, ()) rD Q
def ref42_Widest_v  (parts : List (List Int)) (l : List Ref42_Step) (Q : Int → Prop) : Prop := Rng1 l.length (fun j1 q1 V1 (most2 : Int) => InR most2 → (∃ q5 : j1 < l.length, (InR ((l[j1]).Part) → ref42_live parts l (j1 : Int) (fun (x8 : List Int) => ref42_part parts ((l[j1]).Part) (fun (x9 : List Int) => ((x8.length + x9.length) * 8 ≤ 140737488355328) ∧ (ref42_set (x8 ++ x9) (fun (x13 : List Int) => (x13.length ≤ 9223372036854775807 → (((most2 < (x13.length : Int)) → V1 (x13.length : Int)) ∧ (¬(most2 < (x13.length : Int)) → V1 most2)))))))))) (fun (most2 : Int) => InR most2 → Q most2) 0
theorem ref42_Widest_w  {parts : List (List Int)} {l : List Ref42_Step} {Q : Int → Prop} (h : ref42_Widest_v parts l Q) : ref42_Widest parts l Q := by
  rintro I w T A vs ⟨u0, _, rfl, (r_parts : rep I w u0 parts), u1, _, rfl, (r_l : rep I w u1 l), rfl, rfl⟩ s0
  refine ret_of_wt Try.func38 rfl Try.ntmps38 rfl ?_
  refine wt_seq (wt_region (o_assign (wl_nil (wt_seq (wt_region (o_assign (wl_nil (wt_seq (wt_seq (wt_region (o_assign (wl_nil (wt_block (?_))))))))))))))
  obtain ⟨V1, z1, b1, k1⟩ := h
  refine wt_loop (fun n f w1 => ∃ (g : Fr) (I1 : Reg) (j1 : Nat) (most2 : Int), f = ov [(0, u0), (1, u1), (5, .int .i64 most2), (6, .int .i64 (j1 : Int))] g ∧ n = l.length - j1 ∧ j1 ≤ l.length ∧ Ext I w I1 w1 ∧ St I1 w1 T ∧ InR most2 ∧ V1 j1 most2) _ ⟨_, _, 0, 0, ov_self _ _ ⟨rfl, rfl, rfl, rfl, trivial⟩, rfl, Nat.zero_le _, Ext.refl _ _, s0, (inr_lit (by decide) (by decide)), z1⟩ ?_
  rintro n f w1 ⟨g, I1, j1, most2, rfl, rfl, l1, e1, s1, g2, h1⟩ i1
  refine wt_seq (wt_seq (wt_region (o_mov (.int .i64 (j1 : Int)) rfl (o_mov u1 rfl (o_len' (e1.rep r_l) rfl sl38 rfl (o_lssv rfl rfl (wl_nil (wt_condp rfl (fun q1 => ?_) (fun q1 => ?_)))))))))
  · have y1 := b1 _ (rng_lt q1) _ h1 g2
    have q1n := rng_lt q1
    refine wt_skip (wt_seq (wt_block (wt_seq (wt_drawS s1 mixed rfl (fun w4 e4 s4 => ?_)))))
    refine g_op (i := 0) rfl rfl rfl (by kernel_rfl) rfl ⟨_, e4⟩ (fun w' ⟨I', e'⟩ => o_mov u0 rfl ⟨rfl, rfl⟩) (g_op (i := 1) rfl rfl rfl (by kernel_rfl) rfl ⟨_, e4⟩ (fun w' ⟨I', e'⟩ => o_mov u1 rfl ⟨rfl, rfl⟩) (g_op (i := 2) rfl rfl rfl (by kernel_rfl) rfl ⟨_, e4⟩ (fun w' ⟨I', e'⟩ => o_mov (.int .i64 (j1 : Int)) rfl ⟨rfl, rfl⟩) (g_op (i := 4) rfl rfl rfl (by kernel_rfl) rfl ⟨_, e4⟩ (fun w' ⟨I', e'⟩ => o_mov u0 rfl ⟨rfl, rfl⟩) (g_op (i := 5) rfl rfl rfl (by kernel_rfl) rfl ⟨_, e4⟩ (fun w' ⟨I', e'⟩ => o_mov u1 rfl ⟨rfl, rfl⟩) (g_op (i := 6) rfl rfl rfl (by kernel_rfl) rfl ⟨_, e4⟩ (fun w' ⟨I', e'⟩ => o_mov (.int .i64 (j1 : Int)) rfl ⟨rfl, rfl⟩) (?_))))))
    obtain ⟨q5, h5⟩ := y1
    obtain ⟨a5, v5, p5, b5, r5, x5⟩ := at_index (j := j1) sl38 (e1.rep r_l) q5
    refine g_op (i := 7) rfl rfl rfl (by kernel_rfl) rfl ⟨_, e4⟩ (fun w' ⟨I', e'⟩ => o_ix x5 rfl rfl rfl ⟨rfl, rfl⟩) (?_)
    obtain ⟨v6, r6, p6, q6⟩ := Points.field fld_Ref42_Step_0 p5 r5
    have b6 := blk_of q6 b5
    refine g_op (i := 8) rfl rfl rfl (by kernel_rfl) rfl ⟨_, e4⟩ (fun w' ⟨I', e'⟩ => o_fl fl42_0 rfl ⟨rfl, rfl⟩) (?_)
    have r7 := r6
    obtain ⟨rfl, g7⟩ := rint_in r7
    refine g_op (i := 9) rfl rfl rfl (by kernel_rfl) rfl ⟨_, e4⟩ (fun w' ⟨I', e'⟩ => o_load ty3 (Points.mono e' b6 p6) (e'.rep r7) rfl ⟨rfl, rfl⟩) (g_one (i := 3) rfl (by kernel_rfl) rfl (o_ret cc52 (Wp.c0 (h5 g7) ⟨_, _, rfl, (e4.rep (e1.rep r_parts)), _, _, rfl, (e4.rep (e1.rep r_l)), _, _, rfl, ⟨rfl, (inr_nat l1 (rep_len r_l)).1, (inr_nat l1 (rep_len r_l)).2⟩, rfl, rfl⟩ s4) rfl ?_))
    rintro v8 I8 w8 e8 ⟨A8, x8, s8, o8, h8⟩
    refine wl_nil ⟨⟨_, (e4.trans e8)⟩, ?_⟩
    refine g_one (i := 10) rfl (by kernel_rfl) rfl (o_ret cc54 (Wp.c0 h8 ⟨_, _, rfl, (e8.rep (e4.rep (e1.rep r_parts))), _, _, rfl, ⟨rfl, g7.1, g7.2⟩, rfl, rfl⟩ s8) rfl ?_)
    rintro v9 I9 w9 e9 ⟨A9, x9, s9, o9, h9⟩
    refine wl_nil ⟨⟨_, ((e4.trans e8).trans e9)⟩, ?_⟩
    refine g_one (i := 11) rfl (by kernel_rfl) rfl (?_)
    obtain ⟨I11, e11, s11, r11⟩ := OwnSl.freeze o9 s9
    refine o_append sl22 s11 ((o8.mono e9).mono e11) r11 rfl rfl h9.1 (app_le h9.1) (fun v10 A10 w10 e10 s10 o10 => ?_)
    refine wl_nil ⟨⟨_, ((((e4.trans e8).trans e9).trans e11).trans e10)⟩, ?_⟩
    refine g_one (i := 12) rfl (by kernel_rfl) rfl (?_)
    obtain ⟨e12, s12, r12⟩ := OwnSl.lend o10 s10
    refine o_ret cc46 (Wp.c0 h9.2 ⟨_, _, rfl, r12, rfl, rfl⟩ s12) rfl ?_
    rintro v13 I13 w13 e13 ⟨A13, x13, s13, o13, h13⟩
    obtain ⟨I14, e14, s14⟩ := St.back2 s10 e13 s13
    replace o13 := o13.flatI (I' := I14) (w' := w13)
    refine wl_nil ⟨⟨_, (((((e4.trans e8).trans e9).trans e11).trans e10).trans e14)⟩, ?_⟩
    refine g_one (i := 13) rfl (by kernel_rfl) rfl (o_lenO o13 rfl sl22 rfl (wl_nil ⟨⟨_, (((((e4.trans e8).trans e9).trans e11).trans e10).trans e14)⟩, ?_⟩))
    refine g_op (i := 14) rfl rfl rfl (by kernel_rfl) rfl ⟨_, (((((e4.trans e8).trans e9).trans e11).trans e10).trans e14)⟩ (fun w' ⟨I', e'⟩ => o_asg (.int .i64 (x13.length : Int)) rfl ⟨rfl, rfl⟩) (g_done (by kernel_rfl) (wt_seq (wt_region (o_mov (.int .i64 (x13.length : Int)) rfl (o_mov (.int .i64 most2) rfl (o_gtrv rfl rfl (wl_nil (?_))))))))
    have h15 := (h13 o13.bd)
    refine wt_condp rfl (fun c16 => ?_) (fun c16 => ?_)
    · refine wt_region (o_mov (.int .i64 (x13.length : Int)) rfl (o_asg (.int .i64 (x13.length : Int)) rfl (wl_nil (wt_inBlock (wt_region (o_mov (.int .i64 (j1 : Int)) rfl (o_addi rfl rfl (inr_succ0 q1n (rep_len r_l)) (o_asg (.int .i64 ((j1 : Int) + 1)) rfl (wl_nil (?_))))))))))
      exact i1.out _ _ _ (by omega) ⟨_, _, j1 + 1, (x13.length : Int), ov_self _ _ ⟨rfl, rfl, rfl, rfl, trivial⟩, rfl, q1n, ((((((e1.trans e4).trans e8).trans e9).trans e11).trans e10).trans e14), s14.drop.drop, (inr_len o13.bd), (h15.1 c16)⟩
    · refine wt_skip (wt_inBlock (wt_region (o_mov (.int .i64 (j1 : Int)) rfl (o_addi rfl rfl (inr_succ0 q1n (rep_len r_l)) (o_asg (.int .i64 ((j1 : Int) + 1)) rfl (wl_nil (?_)))))))
      exact i1.out _ _ _ (by omega) ⟨_, _, j1 + 1, most2, ov_self _ _ ⟨rfl, rfl, rfl, rfl, trivial⟩, rfl, q1n, ((((((e1.trans e4).trans e8).trans e9).trans e11).trans e10).trans e14), s14.drop.drop, g2, (h15.2 c16)⟩
  · have y1 := k1 _ (rng_end (I := fun j => V1 j most2) l1 q1 h1) g2
    refine wt_exit rfl (wt_seq (wt_region (o_mov (.int .i64 most2) rfl (o_asg (.int .i64 most2) rfl (wl_nil (?_))))))
    exact ret_one Try.func38 rfl rfl e1 ⟨[], _, s1, ⟨rfl, ⟨rfl, g2.1, g2.2⟩⟩, y1⟩

def law42_SchedLives  (parts : List (List Int)) (out : List Int) (l : List Ref42_Step) (Q : Bool → Prop) : Prop := Wp Try.prog 8 (sD (sD (sD sN))) (parts, out, l, ()) rD Q
def law42_SchedLives_v  (parts : List (List Int)) (out : List Int) (l : List Ref42_Step) (Q : Bool → Prop) : Prop := law42_few parts out l (fun (x1 : Bool) => (((!x1) = true → law42_lives  (fun (x3 : Bool) => Q x3)) ∧ ((!x1) = false → law42_own l (fun (x4 : List Sched_Step) => sched_Right parts out x4 (fun (x6 : Bool) => ref42_Right parts out l (fun (x8 : Bool) => (((x6 == x8) = true → sched_Live parts out x4 (fun (x11 : List Int) => ref42_Live parts l (fun (x13 : List Int) => law42_same x11 x13 (fun (x17 : Bool) => ((x17 = true → sched_Widest parts out x4 (fun (x24 : Int) => InR x24 → ref42_Widest parts l (fun (x26 : Int) => InR x26 → (((x24 = x26) → law42_lives  (fun (x29 : Bool) => Q x29)) ∧ (¬(x24 = x26) → Q false))))) ∧ (x17 = false → Q false)))))) ∧ ((x6 == x8) = false → Q false))))))))
set_option maxHeartbeats 4000000 in
theorem law42_SchedLives_w  {parts : List (List Int)} {out : List Int} {l : List Ref42_Step} {Q : Bool → Prop} (h : law42_SchedLives_v parts out l Q) : law42_SchedLives parts out l Q := by
  rintro I w T A vs ⟨u0, _, rfl, (r_parts : rep I w u0 parts), u1, _, rfl, (r_out : rep I w u1 out), u2, _, rfl, (r_l : rep I w u2 l), rfl, rfl⟩ s0
  refine ret_of_wt Try.func8 rfl Try.ntmps8 rfl ?_
  refine wt_seq (wt_region (o_assign (wl_nil (wt_seq (wt_seq (wt_region (o_mov u0 rfl (o_mov u1 rfl (o_mov u2 rfl (o_ret cc27 (Wp.c0 h ⟨_, _, rfl, r_parts, _, _, rfl, r_out, _, _, rfl, r_l, rfl, rfl⟩ s0) rfl ?_))))))))))
  rintro v1 I1 w1 e1 ⟨A1, x1, s1, ⟨rfl, r1⟩, h1⟩
  replace s1 := s1.of_nil
  obtain rfl : _ = _ := r1
  refine o_not rfl (wl_nil (wt_cond rfl (fun c2 => ?_) (fun c2 => ?_)))
  · refine wt_seq (wt_region (o_ret cc28 (Wp.c0 (h1.1 c2) ⟨rfl, rfl⟩ s1) rfl ?_))
    rintro v3 I3 w3 e3 ⟨A3, x3, s3, ⟨rfl, r3⟩, h3⟩
    replace s3 := s3.of_nil
    obtain rfl : _ = _ := r3
    refine o_asg (.bool x3) rfl (wl_nil (?_))
    exact ret_one Try.func8 rfl rfl (e1.trans e3) ⟨[], _, s3, ⟨rfl, rfl⟩, h3⟩
  · refine wt_skip (wt_seq (wt_region (o_mov u2 rfl (o_ret cc32 (Wp.c0 (h1.2 c2) ⟨_, _, rfl, (e1.rep r_l), rfl, rfl⟩ s1) rfl ?_))))
    rintro v4 I4 w4 e4 ⟨A4, x4, s4, o4, h4⟩
    refine o_asg v4 rfl (wl_nil (wt_seq (wt_region (o_mov u0 rfl (o_mov u1 rfl (o_mov v4 rfl (?_)))))))
    obtain ⟨e5, s5, r5⟩ := OwnSl.lend o4 s4
    refine o_ret cc33 (Wp.c0 h4 ⟨_, _, rfl, (e5.rep (e4.rep (e1.rep r_parts))), _, _, rfl, (e5.rep (e4.rep (e1.rep r_out))), _, _, rfl, r5, rfl, rfl⟩ s5) rfl ?_
    rintro v6 I6 w6 e6 ⟨A6, x6, s6, ⟨rfl, r6⟩, h6⟩
    replace s6 := s6.of_nil
    obtain rfl : _ = _ := r6
    obtain ⟨I7, e7, s7⟩ := St.back s4 e6 s6
    refine o_mov u0 rfl (o_mov u1 rfl (o_mov u2 rfl (o_ret cc34 (Wp.c0 h6 ⟨_, _, rfl, (e7.rep (e4.rep (e1.rep r_parts))), _, _, rfl, (e7.rep (e4.rep (e1.rep r_out))), _, _, rfl, (e7.rep (e4.rep (e1.rep r_l))), rfl, rfl⟩ s7) rfl ?_)))
    rintro v8 I8 w8 e8 ⟨A8, x8, s8, ⟨rfl, r8⟩, h8⟩
    replace s8 := s8.of_nil
    obtain rfl : _ = _ := r8
    refine o_eqb rfl rfl Try.underlying4 (o_mov (.bool (x6 == x8)) rfl (wl_caseb (d := 25) rfl rfl (fun c9 => ?_) (fun c9 => ?_)))
    · refine wl_yes rfl (o_mov u0 rfl (wl_yes rfl (o_mov u1 rfl (wl_yes rfl (o_mov v4 rfl (wl_yes rfl (?_)))))))
      obtain ⟨e10, s10, r10⟩ := OwnSl.lend ((o4.mono e7).mono e8) s8
      refine o_ret cc35 (Wp.c0 (h8.1 c9) ⟨_, _, rfl, (e10.rep (e8.rep (e7.rep (e4.rep (e1.rep r_parts))))), _, _, rfl, (e10.rep (e8.rep (e7.rep (e4.rep (e1.rep r_out))))), _, _, rfl, r10, rfl, rfl⟩ s10) rfl ?_
      rintro v11 I11 w11 e11 ⟨A11, x11, s11, o11, h11⟩
      obtain ⟨I12, e12, s12⟩ := St.back2 s8 e11 s11
      replace o11 := o11.flatI (I' := I12) (w' := w11)
      refine wl_yes rfl (o_mov u0 rfl (wl_yes rfl (o_mov u2 rfl (wl_yes rfl (o_ret cc36 (Wp.c0 h11 ⟨_, _, rfl, (e12.rep (e8.rep (e7.rep (e4.rep (e1.rep r_parts))))), _, _, rfl, (e12.rep (e8.rep (e7.rep (e4.rep (e1.rep r_l))))), rfl, rfl⟩ s12) rfl ?_)))))
      rintro v13 I13 w13 e13 ⟨A13, x13, s13, o13, h13⟩
      refine wl_yes rfl (?_)
      have s15 := s13.rot1
      obtain ⟨e14, s14, r14⟩ := OwnSl.lend (o11.mono e13) s15
      obtain ⟨e16, s16, r16⟩ := OwnSl.lend (o13.mono e14) s14
      refine o_ret cc31 (Wp.c0 h13 ⟨_, _, rfl, (e16.rep r14), _, _, rfl, r16, rfl, rfl⟩ s16) rfl ?_
      rintro v17 I17 w17 e17 ⟨A17, x17, s17, ⟨rfl, r17⟩, h17⟩
      replace s17 := s17.of_nil
      obtain rfl : _ = _ := r17
      obtain ⟨I18, e18, s18⟩ := St.back s14 e17 s17
      obtain ⟨I19, e19, s19⟩ := St.back s15 e18 s18
      refine o_pickt (.bool x17) rfl rfl (o_mov (.bool x17) rfl (wl_caseb (d := 35) rfl rfl (fun c20 => ?_) (fun c20 => ?_)))
      · refine wl_yes rfl (o_mov u0 rfl (wl_yes rfl (o_mov u1 rfl (wl_yes rfl (o_mov v4 rfl (wl_yes rfl (?_)))))))
        have h21 := (h17.1 c20)
        have s23 := s19.rot2
        obtain ⟨e22, s22, r22⟩ := OwnSl.lend (((((o4.mono e7).mono e8).mono e12).mono e13).mono e19) s23
        refine o_ret cc37 (Wp.c0 h21 ⟨_, _, rfl, (e22.rep (e19.rep (e13.rep (e12.rep (e8.rep (e7.rep (e4.rep (e1.rep r_parts)))))))), _, _, rfl, (e22.rep (e19.rep (e13.rep (e12.rep (e8.rep (e7.rep (e4.rep (e1.rep r_out)))))))), _, _, rfl, r22, rfl, rfl⟩ s22) rfl ?_
        rintro v24 I24 w24 e24 ⟨A24, x24, s24, ⟨rfl, r24⟩, h24⟩
        replace s24 := s24.of_nil
        obtain ⟨rfl, g24⟩ := rint_in r24
        obtain ⟨I25, e25, s25⟩ := St.back s23 e24 s24
        refine wl_yes rfl (o_mov u0 rfl (wl_yes rfl (o_mov u2 rfl (wl_yes rfl (o_ret cc38 (Wp.c0 (h24 g24) ⟨_, _, rfl, (e25.rep (e19.rep (e13.rep (e12.rep (e8.rep (e7.rep (e4.rep (e1.rep r_parts)))))))), _, _, rfl, (e25.rep (e19.rep (e13.rep (e12.rep (e8.rep (e7.rep (e4.rep (e1.rep r_l)))))))), rfl, rfl⟩ s25) rfl ?_)))))
        rintro v26 I26 w26 e26 ⟨A26, x26, s26, ⟨rfl, r26⟩, h26⟩
        replace s26 := s26.of_nil
        obtain ⟨rfl, g26⟩ := rint_in r26
        refine wl_yes rfl (o_eqlv rfl rfl (o_pickt (.bool (decide (x24 = x26))) rfl rfl (o_mov (.bool (decide (x24 = x26))) rfl (wl_casep (d := 45) rfl rfl (fun c27 => ?_) (fun c27 => ?_)))))
        · refine wl_yes rfl (?_)
          have h28 := ((h26 g26).1 c27)
          refine o_ret cc28 (Wp.c0 h28 ⟨rfl, rfl⟩ s26) rfl ?_
          rintro v29 I29 w29 e29 ⟨A29, x29, s29, ⟨rfl, r29⟩, h29⟩
          replace s29 := s29.of_nil
          obtain rfl : _ = _ := r29
          refine o_pickt (.bool x29) rfl rfl (o_asg (.bool x29) rfl (wl_nil (?_)))
          exact ret_one Try.func8 rfl rfl (((((((((e1.trans e4).trans e7).trans e8).trans e12).trans e13).trans e19).trans e25).trans e26).trans e29) ⟨[], _, s29.drop.drop.drop, ⟨rfl, rfl⟩, h29⟩
        · refine wl_no rfl (o_pick0 rfl (o_asg (.bool false) rfl (wl_nil (?_))))
          exact ret_one Try.func8 rfl rfl ((((((((e1.trans e4).trans e7).trans e8).trans e12).trans e13).trans e19).trans e25).trans e26) ⟨[], _, s26.drop.drop.drop, ⟨rfl, rfl⟩, ((h26 g26).2 c27)⟩
      · refine wl_no rfl (wl_no rfl (wl_no rfl (wl_no rfl (wl_no rfl (wl_no rfl (wl_no rfl (wl_no rfl (o_pick0 rfl (o_mov (.bool false) rfl (wl_no rfl (o_pick0 rfl (o_asg (.bool false) rfl (wl_nil (?_))))))))))))))
        exact ret_one Try.func8 rfl rfl ((((((e1.trans e4).trans e7).trans e8).trans e12).trans e13).trans e19) ⟨[], _, s19.drop.drop.drop, ⟨rfl, rfl⟩, (h17.2 c20)⟩
    · refine wl_no rfl (wl_no rfl (wl_no rfl (wl_no rfl (wl_no rfl (wl_no rfl (wl_no rfl (wl_no rfl (o_pick0 rfl (o_mov (.bool false) rfl (wl_no rfl (wl_no rfl (wl_no rfl (wl_no rfl (wl_no rfl (wl_no rfl (wl_no rfl (wl_no rfl (o_pick0 rfl (o_mov (.bool false) rfl (wl_no rfl (o_pick0 rfl (o_asg (.bool false) rfl (wl_nil (?_))))))))))))))))))))))))
      exact ret_one Try.func8 rfl rfl (((e1.trans e4).trans e7).trans e8) ⟨[], _, s8.drop, ⟨rfl, rfl⟩, (h8.2 c9)⟩
end Go.Proofs.Ytinfniggaldheaa
