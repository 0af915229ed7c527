import Derived.Test.YtihgdjflacccmaaV3
set_option linter.unusedVariables false
set_option linter.unusedSimpArgs false
namespace Go.Proofs.Ytihgdjflacccmaa.Abs
open Go Go.RowKit
abbrev plKs : List IntKind := [.i16, .i16, .u8, .u8, .u8, .i16, .i16, .i16, .i16]
abbrev plNs (x : Pl) : List Int := [x.1, x.2.cls, x.2.m0, x.2.m1, x.2.m2, x.2.vol, x.2.wide, x.2.high, x.2.weight]
theorem eqT_i16 (n : Nat) : EqT Pr (n + 1) 22 false [.i16] := eqT_int T0_ok rfl rfl rfl
theorem eqT_u8 (n : Nat) : EqT Pr (n + 1) 5 false [.u8] := eqT_int T0_ok rfl rfl rfl
theorem eqT_a3 : EqT Pr 2 64 true [.u8, .u8, .u8] := eqT_arr3 T0_ok rfl rfl rfl (eqT_u8 0)
set_option maxRecDepth 100000 in
theorem eqT_bk : EqT Pr 3 66 true [.i16, .u8, .u8, .u8, .i16, .i16, .i16, .i16] := eqT_struct (kss := [[.i16], [.u8, .u8, .u8], [.i16], [.i16], [.i16], [.i16]]) T0_ok rfl (by kernel_rfl) (by kernel_rfl) ⟨by decide +kernel, by kernel_rfl, ⟨_, eqT_i16 1⟩, by decide +kernel, by kernel_rfl, ⟨_, eqT_a3⟩, by decide +kernel, by kernel_rfl, ⟨_, eqT_i16 1⟩, by decide +kernel, by kernel_rfl, ⟨_, eqT_i16 1⟩, by decide +kernel, by kernel_rfl, ⟨_, eqT_i16 1⟩, by decide +kernel, by kernel_rfl, ⟨_, eqT_i16 1⟩, trivial⟩ rfl rfl
set_option maxRecDepth 100000 in
theorem eqT_pl : EqT Pr 4 68 true plKs := eqT_struct (kss := [[.i16], [.i16, .u8, .u8, .u8, .i16, .i16, .i16, .i16]]) T0_ok rfl (by kernel_rfl) (by kernel_rfl) ⟨by decide +kernel, by kernel_rfl, ⟨_, eqT_i16 2⟩, by decide +kernel, by kernel_rfl, ⟨_, eqT_bk⟩, trivial⟩ rfl rfl
theorem eqG_pl : Pr.eqGuardType Pr.depth 68 = false := by kernel_rfl
theorem plNs_eq {x y : Pl} : decide (plNs x = plNs y) = ask (x = y) := by
  rw [Bool.eq_iff_iff, decide_eq_true_eq, ask_iff]
  constructor
  · intro h
    simp only [plNs, List.cons.injEq, and_true] at h
    obtain ⟨h0, h1, h2, h3, h4, h5, h6, h7, h8⟩ := h
    exact Prod.ext h0 (Bk.same h1 h2 h3 h4 h5 h6 h7 h8)
  · rintro rfl; rfl

noncomputable abbrev s_slices_Equal_I_Placed_I_Placed : Spec (List Pl × List Pl) where
  args := fun x => [.sl 9 (pls x.1), .sl 9 (pls x.2)]
  pre := fun x => x.1.length ≤ 9223372036854775807 ∧ x.2.length ≤ 9223372036854775807
  res := fun x => .val (.bool (ask (x.1 = x.2)))

set_option maxRecDepth 20000 in
set_option maxHeartbeats 4000000 in
theorem ok_slices_Equal_I_Placed_I_Placed : FnOk Pr 46 s_slices_Equal_I_Placed_I_Placed := by
  refine fn_ok 2 0 T0_ok Go.Proofs.Try.func46 rfl (enters_of Go.Proofs.Try.func46 rfl rfl) (fun _ => rfl) (fun _ => rfl) (fun _ => rfl) ?_
  rintro ⟨xs, ys⟩ ⟨hp, hp2⟩ C hP hN hm hG
  change awp C _ _ ⟨[(0, .sl 9 (pls xs)), (1, .sl 9 (pls ys))], [], 0⟩
  simp only at hp hp2
  refine awp_seq ?_
  refine r1 T0_ok hP hm hN ?_
  refine g1 ?_
  refine awp_seq ?_
  refine awp_seq ?_
  refine r1 T0_ok hP hm hN ?_
  refine g1 ?_
  refine g1 ?_
  refine g1 ?_
  refine g1 ?_
  refine g1 ?_
  refine awp_cond rfl (fun hc0 => ?_) (fun hc0 => ?_)
  · skip
    refine awp_seq ?_
    refine r1 T0_ok hP hm hN ?_
    refine g1 ?_
    refine awp_ret ?_
    refine fin_mk [] rfl rfl ?_ trivial (by decide)
    show D.val (.bool (ask (xs = ys))) = D.val (.bool false)
    rw [ask_false (fun h => by subst h; simp at hc0)]
  · skip
    have hl : xs.length = ys.length := by simp at hc0; omega
    refine awp_skip ?_
    refine awp_seq ?_
    refine awp_seq ?_
    refine r1 T0_ok hP hm hN ?_
    refine g1 ?_
    refine g1 ?_
    refine g1 ?_
    refine awp_block ?_
    refine awp_loop (fun n st => ∃ i : Nat, i ≤ xs.length ∧ (∀ j, j < i → xs.getD j pl0 = ys.getD j pl0) ∧ n = xs.length - i ∧ st = ⟨[(13, .val (.int .i64 (i : Nat))), (12, .val (.int .i64 (xs.length : Nat))), (0, .sl 9 (pls xs)), (1, .sl 9 (pls ys))], [], 0⟩) (xs.length) ⟨_, weak_sl (sub_cons rfl (sub_cons rfl (sub_cons rfl (sub_cons rfl (sub_nil))))), 0, by omega, fun j h => by omega, rfl, rfl⟩ ?_
    rintro n st ⟨i, hii, hall, hni, rfl⟩
    refine awp_seq ?_
    refine r1 T0_ok hP hm hN ?_
    refine g1 ?_
    refine awp_seq ?_
    refine awp_cond rfl (fun hc1 => ?_) (fun hc1 => ?_)
    · skip
      have hlti : i < xs.length := by simpa using hc1
      refine awp_skip ?_
      refine awp_seq ?_
      refine awp_block ?_
      refine awp_seq ?_
      refine r1 T0_ok hP hm hN ?_
      refine g1 ?_
      refine g1 ?_
      refine awp_seq ?_
      refine awp_draw T0_ok hP hm hN Pr_mix [0, 1, 2, 3, 4, 5, 6, 7, 8, 9, 10, 11] [] _ rfl (by rfl) ?_
      refine d1 T0_ok ?_
      refine d1 T0_ok ?_
      refine d1 T0_ok ?_
      refine d1 T0_ok ?_
      refine d1 T0_ok ?_
      refine d1 T0_ok ?_
      refine d1 T0_ok ?_
      refine d1 T0_ok ?_
      refine dfr ?_ (fun hp nx => oprel_neS (xs := plNs (xs.getD i pl0)) (ys := plNs (ys.getD i pl0)) eqT_pl (by omega) eqG_pl rfl rfl rfl rfl rfl)
      refine dreg_nil ?_
      refine awp_cond rfl (fun hc2 => ?_) (fun hc2 => ?_)
      · skip
        refine awp_seq ?_
        refine r1 T0_ok hP hm hN ?_
        refine g1 ?_
        refine awp_ret ?_
        refine fin_mk [] rfl rfl ?_ trivial (by decide)
        show D.val (.bool (ask (xs = ys))) = D.val (.bool false)
        rw [ask_false (fun h => by subst h; simp at hc2)]
      · skip
        refine awp_skip ?_
        refine r1 T0_ok hP hm hN ?_
        refine g1 ?_
        refine g1 ?_
        refine ⟨xs.length - (i + 1), _, by omega, weak_sl (sub_cons rfl (sub_cons rfl (sub_cons rfl (sub_cons rfl (sub_nil))))), i + 1, by omega, upto_step hall (ask_iff.1 (by rw [plNs_eq] at hc2; simpa using hc2)), rfl, rfl⟩
    · skip
      have hgei : ¬ i < xs.length := by simpa using hc1
      have heqi : i = xs.length := by omega
      refine awp_exit ?_
      repeat refine thenA_exit ?_
      refine blockA_hit ?_
      refine awp_seq ?_
      refine r1 T0_ok hP hm hN ?_
      refine g1 ?_
      refine awp_ret ?_
      refine fin_mk [] rfl rfl ?_ trivial (by decide)
      show D.val (.bool (ask (xs = ys))) = D.val (.bool true)
      rw [ask_true (list_ext' (d := pl0) hl (fun j hj => hall j (by omega)))]

noncomputable abbrev s_S_SameRack : Spec ((Int × List Pl) × (Int × List Pl)) where
  args := fun x => [rackD x.1, rackD x.2]
  pre := fun x => x.1.2.length ≤ 9223372036854775807 ∧ x.2.2.length ≤ 9223372036854775807
  res := fun x => .val (.bool (ask (x.1 = x.2)))

set_option maxRecDepth 20000 in
set_option maxHeartbeats 4000000 in
theorem ok_S_SameRack : FnOk Pr 21 s_S_SameRack := by
  refine fn_ok 2 0 T0_ok Go.Proofs.Try.func21 rfl (enters_of Go.Proofs.Try.func21 rfl rfl) (fun _ => rfl) (fun _ => rfl) (fun _ => rfl) ?_
  rintro ⟨⟨p, xs⟩, q, ys⟩ ⟨h1, h2⟩ C hP hN hm hG
  change awp C _ _ ⟨[(0, .agg [.val (.int .i16 p), .sl 9 (pls xs)]), (1, .agg [.val (.int .i16 q), .sl 9 (pls ys)])], [], 0⟩
  simp only at h1 h2
  refine awp_seq ?_
  refine r1 T0_ok hP hm hN ?_
  refine g1 ?_
  refine g1 ?_
  refine g1 ?_
  refine awp_seq ?_
  refine awp_seq ?_
  refine r1 T0_ok hP hm hN ?_
  refine g1 ?_
  refine g1 ?_
  refine g1 ?_
  refine g1 ?_
  refine g1 ?_
  refine g1 ?_
  refine gg1 ?_
  refine gg1 ?_
  refine gg1 ?_
  refine gg1 ?_
  refine gg1 ?_
  refine gg1 ?_
  refine gg1 ?_
  refine g1 ?_
  refine awp_cond rfl (fun hc0 => ?_) (fun hc0 => ?_)
  · skip
    refine awp_seq ?_
    refine r1 T0_ok hP hm hN ?_
    refine g1 ?_
    refine awp_ret ?_
    refine fin_mk [] rfl rfl ?_ trivial (by decide)
    show D.val (.bool (ask ((p, xs) = (q, ys)))) = D.val (.bool false)
    rw [ask_false (fun h => by simp only [Prod.mk.injEq] at h; obtain ⟨rfl, rfl⟩ := h; simp at hc0)]
  · skip
    have hpq : p = q := by simp at hc0; omega
    have hl : xs.length = ys.length := by simp at hc0; omega
    refine awp_skip ?_
    refine awp_seq ?_
    refine awp_seq ?_
    refine r1 T0_ok hP hm hN ?_
    refine g1 ?_
    refine awp_block ?_
    refine awp_loop (fun n st => ∃ i : Nat, i ≤ xs.length ∧ (∀ j, j < i → xs.getD j pl0 = ys.getD j pl0) ∧ n = xs.length - i ∧ st = ⟨[(5, .val (.int .i64 (i : Nat))), (2, .ptr 0 0 0), (3, .ptr 1 0 0)], [(1, ⟨46, 2, true, [[.val (.int .i16 q), .sl 9 (pls ys)]]⟩), (0, ⟨46, 2, true, [[.val (.int .i16 p), .sl 9 (pls xs)]]⟩)], 2⟩) (xs.length) ⟨_, weak_sl (sub_cons rfl (sub_cons rfl (sub_cons rfl (sub_nil)))), 0, by omega, fun j h => by omega, rfl, rfl⟩ ?_
    rintro n st ⟨i, hii, hall, hni, rfl⟩
    refine awp_seq ?_
    refine awp_seq ?_
    refine r1 T0_ok hP hm hN ?_
    refine g1 ?_
    refine g1 ?_
    refine g1 ?_
    refine g1 ?_
    refine g1 ?_
    refine awp_cond rfl (fun hc1 => ?_) (fun hc1 => ?_)
    · skip
      have hlti : i < xs.length := by simpa using hc1
      refine awp_skip ?_
      refine awp_seq ?_
      refine awp_block ?_
      refine awp_seq ?_
      refine awp_draw T0_ok hP hm hN Pr_mix [0, 1, 2, 3, 4, 5, 6, 7, 8, 9, 10, 11] [] _ rfl (by rfl) ?_
      refine d1 T0_ok ?_
      refine d1 T0_ok ?_
      refine d1 T0_ok ?_
      refine d1 T0_ok ?_
      refine d1 T0_ok ?_
      refine d1 T0_ok ?_
      refine d1 T0_ok ?_
      refine d1 T0_ok ?_
      refine d1 T0_ok ?_
      refine d1 T0_ok ?_
      refine dfr ?_ (fun hp nx => oprel_neS (xs := plNs (xs.getD i pl0)) (ys := plNs (ys.getD i pl0)) eqT_pl (by omega) eqG_pl rfl rfl rfl rfl rfl)
      refine dreg_nil ?_
      refine awp_cond rfl (fun hc2 => ?_) (fun hc2 => ?_)
      · skip
        refine awp_seq ?_
        refine r1 T0_ok hP hm hN ?_
        refine g1 ?_
        refine awp_ret ?_
        refine fin_mk [] rfl rfl ?_ trivial (by decide)
        show D.val (.bool (ask ((p, xs) = (q, ys)))) = D.val (.bool false)
        rw [ask_false (fun h => by simp only [Prod.mk.injEq] at h; obtain ⟨rfl, rfl⟩ := h; simp at hc2)]
      · skip
        refine awp_skip ?_
        refine r1 T0_ok hP hm hN ?_
        refine g1 ?_
        refine g1 ?_
        refine g1 ?_
        refine ⟨xs.length - (i + 1), _, by omega, weak_sl (sub_cons rfl (sub_cons rfl (sub_cons rfl (sub_nil)))), i + 1, by omega, upto_step hall (ask_iff.1 (by rw [plNs_eq] at hc2; simpa using hc2)), rfl, rfl⟩
    · skip
      have hgei : ¬ i < xs.length := by simpa using hc1
      have heqi : i = xs.length := by omega
      refine awp_exit ?_
      repeat refine thenA_exit ?_
      refine blockA_hit ?_
      refine awp_seq ?_
      refine r1 T0_ok hP hm hN ?_
      refine g1 ?_
      refine awp_ret ?_
      refine fin_mk [] rfl rfl ?_ trivial (by decide)
      show D.val (.bool (ask ((p, xs) = (q, ys)))) = D.val (.bool true)
      rw [ask_true (by rw [hpq, list_ext' (d := pl0) hl (fun j hj => hall j (by omega))])]

noncomputable abbrev s_I_SameRack : Spec ((Int × List Pl) × (Int × List Pl)) where
  args := fun x => [rackD x.1, rackD x.2]
  pre := fun x => x.1.2.length ≤ 9223372036854775807 ∧ x.2.2.length ≤ 9223372036854775807
  res := fun x => .val (.bool (ask (x.1 = x.2)))

set_option maxRecDepth 20000 in
set_option maxHeartbeats 4000000 in
theorem ok_I_SameRack : FnOk Pr 23 s_I_SameRack := by
  refine fn_ok 2 0 T0_ok Go.Proofs.Try.func23 rfl (enters_of Go.Proofs.Try.func23 rfl rfl) (fun _ => rfl) (fun _ => rfl) (fun _ => rfl) ?_
  rintro ⟨⟨p, xs⟩, q, ys⟩ ⟨h1, h2⟩ C hP hN hm hG
  change awp C _ _ ⟨[(0, .agg [.val (.int .i16 p), .sl 9 (pls xs)]), (1, .agg [.val (.int .i16 q), .sl 9 (pls ys)])], [], 0⟩
  simp only at h1 h2
  refine awp_seq ?_
  refine r1 T0_ok hP hm hN ?_
  refine g1 ?_
  refine g1 ?_
  refine g1 ?_
  refine awp_seq ?_
  refine r1 T0_ok hP hm hN ?_
  refine g1 ?_
  refine g1 ?_
  refine g1 ?_
  refine g1 ?_
  refine g1 ?_
  refine g1 ?_
  refine gg1 ?_
  refine gg1 ?_
  refine gg1 ?_
  refine gg1 ?_
  refine ggc1 ?_ (hs := by intro hb; simp +decide only [hb, gd_tt, gd_ff, beq_self_eq_true, Bool.true_and, beq_true]; exact ⟨rfl, _, call1 ok_slices_Equal_I_Placed_I_Placed (_, _) [] (hpre := by (try dsimp only); exact ⟨h1, h2⟩), rfl, rfl, rfl⟩)
  refine g1 ?_
  refine g1 ?_
  refine awp_ret ?_
  refine fin_mk [] rfl rfl ?_ trivial (by decide)
  show D.val (.bool (ask ((p, xs) = (q, ys)))) = D.val (.bool (p == q && ask (xs = ys)))
  congr 2
  rw [Bool.eq_iff_iff, Bool.and_eq_true, ask_iff, ask_iff, beq_iff_eq, Prod.mk.injEq]

noncomputable abbrev s_L_FnExactSameRack : Spec ((Int × List Pl) × (Int × List Pl)) where
  args := fun x => [.agg [.val (.int .i16 x.1.1), .sl 9 (pls x.1.2)], .agg [.val (.int .i16 x.2.1), .sl 9 (pls x.2.2)]]
  pre := fun x => (isI16 x.1.1 ∧ (∀ b ∈ x.1.2, isPl b) ∧ x.1.2.length ≤ 9223372036854775807) ∧ (isI16 x.2.1 ∧ (∀ b ∈ x.2.2, isPl b) ∧ x.2.2.length ≤ 9223372036854775807)
  res := fun x => .val (.bool true)

set_option maxRecDepth 20000 in
set_option maxHeartbeats 4000000 in
theorem ok_L_FnExactSameRack : FnOk Pr 7 s_L_FnExactSameRack := by
  refine fn_ok 2 0 T0_ok Go.Proofs.Try.func7 rfl (enters_of Go.Proofs.Try.func7 rfl rfl) (fun _ => rfl) (fun _ => rfl) (fun _ => rfl) ?_
  rintro ⟨⟨p, xs⟩, q, ys⟩ ⟨⟨_, _, hl0⟩, ⟨_, _, hl1⟩⟩ C hP hN hm hG
  change awp C _ _ ⟨[(0, .agg [.val (.int .i16 p), .sl 9 (pls xs)]), (1, .agg [.val (.int .i16 q), .sl 9 (pls ys)])], [], 0⟩
  simp only at hl0 hl1
  refine awp_seq ?_
  refine r1 T0_ok hP hm hN ?_
  refine g1 ?_
  refine g1 ?_
  refine g1 ?_
  refine awp_seq ?_
  refine r1 T0_ok hP hm hN ?_
  refine g1 ?_
  refine awp_seq ?_
  refine r1 T0_ok hP hm hN ?_
  refine g1 ?_
  refine g1 ?_
  refine gc1 ?_ (call1 ok_L_szRack ((_, _), _) [] (hpre := by (try dsimp only); exact ⟨by assumption, by omega, by omega⟩))
  refine g1 ?_
  refine awp_seq ?_
  refine awp_seq ?_
  refine r1 T0_ok hP hm hN ?_
  refine g1 ?_
  refine g1 ?_
  refine awp_cond rfl (fun hc0 => ?_) (fun hc0 => ?_)
  · skip
    refine awp_seq ?_
    refine r1 T0_ok hP hm hN ?_
    refine g1 ?_
    refine awp_ret ?_
    refine fin_mk [] rfl rfl ?_ trivial (by decide)
    rfl
  · skip
    have hl : xs.length ≤ 1048576 := by simp only [decide_eq_false_iff_not] at hc0; split at hc0 <;> omega
    rw [if_pos (by omega)] at *
    refine awp_skip ?_
    refine awp_seq ?_
    refine r1 T0_ok hP hm hN ?_
    refine g1 ?_
    refine g1 ?_
    refine gc1 ?_ (call1 ok_L_szRack ((_, _), _) [] (hpre := by (try dsimp only); exact ⟨by assumption, by omega, by omega⟩))
    refine g1 ?_
    refine awp_seq ?_
    refine awp_seq ?_
    refine r1 T0_ok hP hm hN ?_
    refine g1 ?_
    refine g1 ?_
    refine awp_cond rfl (fun hc1 => ?_) (fun hc1 => ?_)
    · skip
      refine awp_seq ?_
      refine r1 T0_ok hP hm hN ?_
      refine g1 ?_
      refine awp_ret ?_
      refine fin_mk [] rfl rfl ?_ trivial (by decide)
      rfl
    · skip
      have hl2 : ys.length ≤ 1048576 := by simp only [decide_eq_false_iff_not] at hc1; split at hc1 <;> omega
      refine awp_skip ?_
      refine awp_seq ?_
      refine awp_draw T0_ok hP hm hN Pr_mix [0, 1, 2, 3, 4, 5, 6, 7, 8, 9, 10, 11] [1, 3, 4] _ rfl (by rfl) ?_
      refine d1 T0_ok ?_
      refine dp1 ?_ (call1 ok_L_toRack (_, _) [] (hpre := by (try dsimp only); assumption))
      refine d1 T0_ok ?_
      refine dp1 ?_ (call1 ok_L_toRack (_, _) [] (hpre := by (try dsimp only); assumption))
      refine dp1 ?_ (call1 ok_S_SameRack ((_, _), (_, _)) [] (hpre := by (try dsimp only); exact ⟨by omega, by omega⟩))
      refine d1 T0_ok ?_
      refine dreg_nil ?_
      refine awp_seq ?_
      refine r1 T0_ok hP hm hN ?_
      refine g1 ?_
      refine gc1 ?_ (call1 ok_L_toRack (_, _) [] (hpre := by (try dsimp only); assumption))
      refine g1 ?_
      refine g1 ?_
      refine awp_seq ?_
      refine r1 T0_ok hP hm hN ?_
      refine g1 ?_
      refine gc1 ?_ (call1 ok_L_toRack (_, _) [] (hpre := by (try dsimp only); assumption))
      refine g1 ?_
      refine g1 ?_
      refine awp_seq ?_
      refine r1 T0_ok hP hm hN ?_
      refine g1 ?_
      refine g1 ?_
      refine gc1 ?_ (call1 ok_I_SameRack ((_, _), (_, _)) [] (hpre := by (try dsimp only); exact ⟨by omega, by omega⟩))
      refine g1 ?_
      refine awp_seq ?_
      refine awp_seq ?_
      refine r1 T0_ok hP hm hN ?_
      refine g1 ?_
      refine g1 ?_
      refine g1 ?_
      refine awp_cond rfl (fun hc2 => ?_) (fun hc2 => ?_)
      · skip
        exfalso; simp at hc2
      · skip
        refine awp_skip ?_
        refine awp_seq ?_
        refine awp_seq ?_
        refine awp_draw T0_ok hP hm hN Pr_mix [0, 1, 2, 3, 4, 5, 6, 7, 8, 9, 10, 11] [2, 3] _ rfl (by rfl) ?_
        refine d1 T0_ok ?_
        refine d1 T0_ok ?_
        refine dp1 ?_ (call1 ok_L_toRack (_, _) [] (hpre := by (try dsimp only); assumption))
        refine dp1 ?_ (call1 ok_L_eqRack ((_, _), (_, _)) [] (hpre := by (try dsimp only); exact ⟨by omega, by omega⟩))
        refine d1 T0_ok ?_
        refine dreg_nil ?_
        refine awp_cond rfl (fun hc3 => ?_) (fun hc3 => ?_)
        · skip
          exfalso; simp [ask] at hc3
        · skip
          refine awp_skip ?_
          refine awp_seq ?_
          refine awp_seq ?_
          refine awp_draw T0_ok hP hm hN Pr_mix [0, 1, 2, 3, 4, 5, 6, 7, 8, 9, 10, 11] [2, 3] _ rfl (by rfl) ?_
          refine d1 T0_ok ?_
          refine d1 T0_ok ?_
          refine dp1 ?_ (call1 ok_L_toRack (_, _) [] (hpre := by (try dsimp only); assumption))
          refine dp1 ?_ (call1 ok_L_eqRack ((_, _), (_, _)) [] (hpre := by (try dsimp only); exact ⟨by omega, by omega⟩))
          refine d1 T0_ok ?_
          refine dreg_nil ?_
          refine awp_cond rfl (fun hc4 => ?_) (fun hc4 => ?_)
          · skip
            exfalso; simp [ask] at hc4
          · skip
            refine awp_skip ?_
            refine awp_seq ?_
            refine r1 T0_ok hP hm hN ?_
            refine g1 ?_
            refine awp_ret ?_
            refine fin_mk [] rfl rfl ?_ trivial (by decide)
            rfl
end Go.Proofs.Ytihgdjflacccmaa.Abs
