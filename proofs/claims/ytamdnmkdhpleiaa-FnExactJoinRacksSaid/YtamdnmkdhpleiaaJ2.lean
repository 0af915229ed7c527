import Derived.Test.YtamdnmkdhpleiaaJ1
set_option linter.unusedVariables false
set_option linter.unusedSimpArgs false
namespace Go.Proofs.Ytamdnmkdhpleiaa.Abs
open Go Go.RowKit
noncomputable abbrev s_L_FnExactSplitRack : Spec ((Int × List Pl) × Int) where
  args := fun x => [.agg [.val (.int .i16 x.1.1), .sl 9 (pls x.1.2)], .val (.int .i64 x.2)]
  pre := fun x => (isI16 x.1.1 ∧ (∀ b ∈ x.1.2, isPl b) ∧ x.1.2.length ≤ 9223372036854775807) ∧ (-9223372036854775808 ≤ x.2 ∧ x.2 ≤ 9223372036854775807)
  res := fun x => .val (.bool true)

set_option maxRecDepth 20000 in
set_option maxHeartbeats 16000000 in
theorem ok_L_FnExactSplitRack : FnOk Pr 3 s_L_FnExactSplitRack := by
  refine fn_ok 2 0 T0_ok Go.Proofs.Try.func3 rfl (enters_of Go.Proofs.Try.func3 rfl rfl) (fun _ => rfl) (fun _ => rfl) (fun _ => rfl) ?_
  rintro ⟨⟨p, xs⟩, k⟩ ⟨⟨hpp, hv, hl0⟩, hk⟩ C hP hN hm hG
  change awp C _ _ ⟨[(0, .agg [.val (.int .i16 p), .sl 9 (pls xs)]), (1, .val (.int .i64 k))], [], 0⟩
  simp only at hpp hv hl0
  obtain ⟨hs1, hs2⟩ := splR_len (okR p xs) p k xs
  obtain ⟨hs3, hs4⟩ := splR_len (validR p xs) p k xs
  refine awp_seq ?_
  refine r1 T0_ok hP hm hN ?_
  refine g1 ?_
  refine g1 ?_
  refine awp_seq ?_
  refine r1 T0_ok hP hm hN ?_
  refine g1 ?_
  refine awp_seq ?_
  refine r1 T0_ok hP hm hN ?_
  refine g1 ?_
  refine g1 ?_
  refine gc1 ?_ (call1 ok_L_szRack ((_, _), _) [] (hpre := by (try dsimp only); exact ⟨by assumption, by omega, by omega⟩))
  refine g1 ?_
  refine awp_seq ?_
  refine awp_seq ?_
  refine r1 T0_ok hP hm hN ?_
  refine g1 ?_
  refine g1 ?_
  refine awp_cond rfl (fun hc0 => ?_) (fun hc0 => ?_)
  · skip
    refine awp_seq ?_
    refine r1 T0_ok hP hm hN ?_
    refine g1 ?_
    refine awp_ret ?_
    refine fin_mk [] rfl rfl ?_ trivial (by decide)
    rfl
  · skip
    have hl : xs.length ≤ 1048576 := by simp only [decide_eq_false_iff_not] at hc0; split at hc0 <;> omega
    refine awp_skip ?_
    refine awp_seq ?_
    refine r1 T0_ok hP hm hN ?_
    refine g1 ?_
    refine gc1 ?_ (call1 ok_L_toRack (_, _) [] (hpre := by (try dsimp only); exact hl))
    refine g1 ?_
    refine gc1 ?_ (call1 ok_S_SplitRack ((_, _), _) [] (hpre := by (try dsimp only); exact ⟨⟨hpp, hv⟩, hl⟩))
    refine g1 ?_
    refine g1 ?_
    refine g1 ?_
    refine g1 ?_
    refine g1 ?_
    refine g1 ?_
    refine g1 ?_
    refine g1 ?_
    refine g1 ?_
    refine awp_seq ?_
    refine r1 T0_ok hP hm hN ?_
    refine g1 ?_
    refine gc1 ?_ (call1 ok_L_toRack (_, _) [] (hpre := by (try dsimp only); exact hl))
    refine g1 ?_
    refine g1 ?_
    refine awp_seq ?_
    refine r1 T0_ok hP hm hN ?_
    refine g1 ?_
    refine g1 ?_
    refine gc1 ?_ (call1 ok_I_SplitRack ((_, _), _) [] (hpre := by (try dsimp only); exact ⟨hv, hl⟩))
    refine g1 ?_
    refine g1 ?_
    refine g1 ?_
    refine g1 ?_
    refine g1 ?_
    refine g1 ?_
    refine g1 ?_
    refine g1 ?_
    refine g1 ?_
    refine awp_seq ?_
    refine awp_seq ?_
    refine r1 T0_ok hP hm hN ?_
    refine g1 ?_
    refine g1 ?_
    refine gc1 ?_ (call1 ok_L_eqRack ((_, (splR (validR p xs) p k xs).2.1), (_, (splR (okR p xs) p k xs).2.1)) [] (hpre := by (try dsimp only); exact ⟨by omega, by omega⟩))
    refine g1 ?_
    refine g1 ?_
    refine gg1 ?_
    refine gg1 ?_
    refine ggc1 ?_ (hs := by intro hb; simp +decide only [hb, gd_tt, gd_ff, beq_self_eq_true, Bool.true_and, beq_true]; exact ⟨rfl, _, call1 ok_L_eqRack ((_, (splR (validR p xs) p k xs).2.2.2.1), (_, (splR (okR p xs) p k xs).2.2.2.1)) [] (hpre := by (try dsimp only); exact ⟨by omega, by omega⟩), rfl, rfl, rfl⟩)
    refine gg1 ?_
    refine g1 ?_
    refine g1 ?_
    refine gg1 ?_
    refine gg1 ?_
    refine gg1 ?_
    refine g1 ?_
    refine awp_cond rfl (fun hc1 => ?_) (fun hc1 => ?_)
    · skip
      exfalso; first | (simp [ask] at hc1; done) | (simp [ask] at hc1; omega) | (rw [okR_validR] at hc1; simp [ask] at hc1; done) | (rw [okR_validR] at hc1; simp [ask] at hc1; omega)
    · skip
      refine awp_skip ?_
      refine awp_seq ?_
      refine awp_seq ?_
      refine awp_draw T0_ok hP hm hN Pr_mix [0, 1, 2, 3, 4, 5, 6, 7, 8, 9, 10, 11] [2, 3] _ rfl (by rfl) ?_
      refine d1 T0_ok ?_
      refine d1 T0_ok ?_
      refine dp1 ?_ (call1 ok_L_toRack (_, _) [] (hpre := by (try dsimp only); exact hl))
      refine dp1 ?_ (call1 ok_L_eqRack ((_, _), (_, _)) [] (hpre := by (try dsimp only); exact ⟨by omega, by omega⟩))
      refine d1 T0_ok ?_
      refine dreg_nil ?_
      refine awp_cond rfl (fun hc2 => ?_) (fun hc2 => ?_)
      · skip
        exfalso; first | (simp [ask] at hc2; done) | (simp [ask] at hc2; omega) | (rw [okR_validR] at hc2; simp [ask] at hc2; done) | (rw [okR_validR] at hc2; simp [ask] at hc2; omega)
      · skip
        refine awp_skip ?_
        refine awp_seq ?_
        refine r1 T0_ok hP hm hN ?_
        refine g1 ?_
        refine awp_seq ?_
        refine r1 T0_ok hP hm hN ?_
        refine g1 ?_
        refine g1 ?_
        refine gc1 ?_ (call1 ok_L_markRack ((_, xs), _) [6] (hpre := by (try dsimp only); exact ⟨by omega, by omega, by omega⟩))
        refine g1 ?_
        refine awp_seq ?_
        refine awp_seq ?_
        refine r1 T0_ok hP hm hN ?_
        refine g1 ?_
        refine g1 ?_
        refine g1 ?_
        refine gg1 ?_
        refine gg1 ?_
        refine ggc1 ?_ (hs := by intro hb; simp +decide only [hb, gd_tt, gd_ff, beq_self_eq_true, Bool.true_and, beq_true]; exact ⟨rfl, _, call1 ok_L_eqRack ((_, (splR (validR p xs) p k xs).2.1), (_, (splR (okR p xs) p k xs).2.1)) [] (hpre := by (try dsimp only); exact ⟨by omega, by omega⟩), rfl, rfl, rfl⟩)
        refine gg1 ?_
        refine g1 ?_
        refine g1 ?_
        refine gg1 ?_
        refine gg1 ?_
        refine ggc1 ?_ (hs := by intro hb; simp +decide only [hb, gd_tt, gd_ff, beq_self_eq_true, Bool.true_and, beq_true]; exact ⟨rfl, _, call1 ok_L_eqRack ((_, (splR (validR p xs) p k xs).2.2.2.1), (_, (splR (okR p xs) p k xs).2.2.2.1)) [] (hpre := by (try dsimp only); exact ⟨by omega, by omega⟩), rfl, rfl, rfl⟩)
        refine gg1 ?_
        refine g1 ?_
        refine g1 ?_
        refine gg1 ?_
        refine gg1 ?_
        refine gg1 ?_
        refine g1 ?_
        refine awp_cond rfl (fun hc3 => ?_) (fun hc3 => ?_)
        · skip
          exfalso; first | (simp [ask] at hc3; done) | (simp [ask] at hc3; omega) | (rw [okR_validR] at hc3; simp [ask] at hc3; done) | (rw [okR_validR] at hc3; simp [ask] at hc3; omega)
        · skip
          refine awp_skip ?_
          refine awp_seq ?_
          refine r1 T0_ok hP hm hN ?_
          refine g1 ?_
          refine awp_seq ?_
          refine r1 T0_ok hP hm hN ?_
          refine g1 ?_
          refine g1 ?_
          refine gc1 ?_ (call1 ok_L_markRack ((_, (splR (validR p xs) p k xs).2.1), _) [8] (hpre := by (try dsimp only); exact ⟨by omega, by omega, by omega⟩))
          refine g1 ?_
          refine awp_seq ?_
          refine r1 T0_ok hP hm hN ?_
          refine g1 ?_
          refine g1 ?_
          refine gc1 ?_ (call1 ok_L_markRack ((_, (splR (validR p xs) p k xs).2.2.2.1), _) [9] (hpre := by (try dsimp only); exact ⟨by omega, by omega, by omega⟩))
          refine g1 ?_
          refine awp_seq ?_
          refine r1 T0_ok hP hm hN ?_
          refine g1 ?_
          refine awp_seq ?_
          refine r1 T0_ok hP hm hN ?_
          refine g1 ?_
          refine g1 ?_
          refine gc1 ?_ (call1 ok_L_heldRack ((_, mkd_placed (splR (validR p xs) p k xs).2.1.length 1), _) [] (hpre := by (try dsimp only); exact ⟨by rw [mkd_placed_len]; omega, by omega, by rw [mkd_placed_len]; omega⟩)) (hst := by simp +decide (disch := omega) only [nrm, lk_nrm, dc_nrm, mk_nrm, mf_nrm, ti_nrm, ls_nrm, mp_nrm, nb_nrm, hset, pick_and, pick_or, ↓reduceIte, Nat.reduceAdd, wI64, wI32, wI16, wI8, wU8, List.length_map, Int.toNat_natCast, heldR_placed_mkd]; rfl)
          refine g1 ?_
          refine awp_seq ?_
          refine awp_seq ?_
          refine r1 T0_ok hP hm hN ?_
          refine g1 ?_
          refine g1 ?_
          refine awp_cond rfl (fun hc4 => ?_) (fun hc4 => ?_)
          · skip
            exfalso; first | (simp [ask] at hc4; done) | (simp [ask] at hc4; omega) | (rw [okR_validR] at hc4; simp [ask] at hc4; done) | (rw [okR_validR] at hc4; simp [ask] at hc4; omega)
          · skip
            refine awp_skip ?_
            refine awp_seq ?_
            refine r1 T0_ok hP hm hN ?_
            refine g1 ?_
            refine g1 ?_
            refine gc1 ?_ (call1 ok_L_heldRack ((_, mkd_placed (splR (validR p xs) p k xs).2.2.2.1.length (1 + 9 * (splR (validR p xs) p k xs).2.1.length)), _) [] (hpre := by (try dsimp only); exact ⟨by rw [mkd_placed_len]; omega, by omega, by rw [mkd_placed_len]; omega⟩)) (hst := by simp +decide (disch := omega) only [nrm, lk_nrm, dc_nrm, mk_nrm, mf_nrm, ti_nrm, ls_nrm, mp_nrm, nb_nrm, hset, pick_and, pick_or, ↓reduceIte, Nat.reduceAdd, wI64, wI32, wI16, wI8, wU8, List.length_map, Int.toNat_natCast, heldR_placed_mkd]; rfl)
            refine g1 ?_
            refine awp_seq ?_
            refine awp_seq ?_
            refine r1 T0_ok hP hm hN ?_
            refine g1 ?_
            refine g1 ?_
            refine awp_cond rfl (fun hc5 => ?_) (fun hc5 => ?_)
            · skip
              exfalso; first | (simp [ask] at hc5; done) | (simp [ask] at hc5; omega) | (rw [okR_validR] at hc5; simp [ask] at hc5; done) | (rw [okR_validR] at hc5; simp [ask] at hc5; omega)
            · skip
              refine awp_skip ?_
              refine awp_seq ?_
              refine awp_seq ?_
              refine r1 T0_ok hP hm hN ?_
              refine g1 ?_
              refine g1 ?_
              refine g1 ?_
              refine awp_cond rfl (fun hc6 => ?_) (fun hc6 => ?_)
              · skip
                exfalso; first | (simp [ask] at hc6; done) | (simp [ask] at hc6; omega) | (rw [okR_validR] at hc6; simp [ask] at hc6; done) | (rw [okR_validR] at hc6; simp [ask] at hc6; omega)
              · skip
                refine awp_skip ?_
                refine awp_seq ?_
                refine r1 T0_ok hP hm hN ?_
                refine g1 ?_
                refine gc1 ?_ (call1 ok_L_toRack (_, _) [] (hpre := by (try dsimp only); exact hl))
                refine g1 ?_
                refine gc1 ?_ (call1 ok_I_SplitRack ((_, _), _) [] (hpre := by (try dsimp only); exact ⟨hv, hl⟩))
                refine g1 ?_
                refine g1 ?_
                refine g1 ?_
                refine g1 ?_
                refine g1 ?_
                refine g1 ?_
                refine g1 ?_
                refine g1 ?_
                refine g1 ?_
                refine awp_seq ?_
                refine awp_seq ?_
                refine r1 T0_ok hP hm hN ?_
                refine g1 ?_
                refine g1 ?_
                refine gc1 ?_ (call1 ok_L_eqRack ((_, (splR (validR p xs) p k xs).2.1), (_, (splR (okR p xs) p k xs).2.1)) [] (hpre := by (try dsimp only); exact ⟨by omega, by omega⟩))
                refine g1 ?_
                refine g1 ?_
                refine gg1 ?_
                refine gg1 ?_
                refine ggc1 ?_ (hs := by intro hb; simp +decide only [hb, gd_tt, gd_ff, beq_self_eq_true, Bool.true_and, beq_true]; exact ⟨rfl, _, call1 ok_L_eqRack ((_, (splR (validR p xs) p k xs).2.2.2.1), (_, (splR (okR p xs) p k xs).2.2.2.1)) [] (hpre := by (try dsimp only); exact ⟨by omega, by omega⟩), rfl, rfl, rfl⟩)
                refine gg1 ?_
                refine g1 ?_
                refine g1 ?_
                refine gg1 ?_
                refine gg1 ?_
                refine gg1 ?_
                refine g1 ?_
                refine awp_cond rfl (fun hc7 => ?_) (fun hc7 => ?_)
                · skip
                  exfalso; first | (simp [ask] at hc7; done) | (simp [ask] at hc7; omega) | (rw [okR_validR] at hc7; simp [ask] at hc7; done) | (rw [okR_validR] at hc7; simp [ask] at hc7; omega)
                · skip
                  refine awp_skip ?_
                  refine awp_seq ?_
                  refine r1 T0_ok hP hm hN ?_
                  refine g1 ?_
                  refine awp_seq ?_
                  refine r1 T0_ok hP hm hN ?_
                  refine g1 ?_
                  refine g1 ?_
                  refine gc1 ?_ (call1 ok_L_heldRack ((_, mkd_placed (splR (validR p xs) p k xs).2.1.length 1), _) [] (hpre := by (try dsimp only); exact ⟨by rw [mkd_placed_len]; omega, by omega, by rw [mkd_placed_len]; omega⟩)) (hst := by simp +decide (disch := omega) only [nrm, lk_nrm, dc_nrm, mk_nrm, mf_nrm, ti_nrm, ls_nrm, mp_nrm, nb_nrm, hset, pick_and, pick_or, ↓reduceIte, Nat.reduceAdd, wI64, wI32, wI16, wI8, wU8, List.length_map, Int.toNat_natCast, heldR_placed_mkd]; rfl)
                  refine g1 ?_
                  refine awp_seq ?_
                  refine awp_seq ?_
                  refine r1 T0_ok hP hm hN ?_
                  refine g1 ?_
                  refine g1 ?_
                  refine awp_cond rfl (fun hc8 => ?_) (fun hc8 => ?_)
                  · skip
                    exfalso; first | (simp [ask] at hc8; done) | (simp [ask] at hc8; omega) | (rw [okR_validR] at hc8; simp [ask] at hc8; done) | (rw [okR_validR] at hc8; simp [ask] at hc8; omega)
                  · skip
                    refine awp_skip ?_
                    refine awp_seq ?_
                    refine r1 T0_ok hP hm hN ?_
                    refine g1 ?_
                    refine g1 ?_
                    refine gc1 ?_ (call1 ok_L_heldRack ((_, mkd_placed (splR (validR p xs) p k xs).2.2.2.1.length (1 + 9 * (splR (validR p xs) p k xs).2.1.length)), _) [] (hpre := by (try dsimp only); exact ⟨by rw [mkd_placed_len]; omega, by omega, by rw [mkd_placed_len]; omega⟩)) (hst := by simp +decide (disch := omega) only [nrm, lk_nrm, dc_nrm, mk_nrm, mf_nrm, ti_nrm, ls_nrm, mp_nrm, nb_nrm, hset, pick_and, pick_or, ↓reduceIte, Nat.reduceAdd, wI64, wI32, wI16, wI8, wU8, List.length_map, Int.toNat_natCast, heldR_placed_mkd]; rfl)
                    refine g1 ?_
                    refine awp_seq ?_
                    refine awp_seq ?_
                    refine r1 T0_ok hP hm hN ?_
                    refine g1 ?_
                    refine g1 ?_
                    refine awp_cond rfl (fun hc9 => ?_) (fun hc9 => ?_)
                    · skip
                      exfalso; first | (simp [ask] at hc9; done) | (simp [ask] at hc9; omega) | (rw [okR_validR] at hc9; simp [ask] at hc9; done) | (rw [okR_validR] at hc9; simp [ask] at hc9; omega)
                    · skip
                      refine awp_skip ?_
                      refine awp_seq ?_
                      refine awp_seq ?_
                      refine r1 T0_ok hP hm hN ?_
                      refine g1 ?_
                      refine g1 ?_
                      refine g1 ?_
                      refine awp_cond rfl (fun hc10 => ?_) (fun hc10 => ?_)
                      · skip
                        exfalso; first | (simp [ask] at hc10; done) | (simp [ask] at hc10; omega) | (rw [okR_validR] at hc10; simp [ask] at hc10; done) | (rw [okR_validR] at hc10; simp [ask] at hc10; omega)
                      · skip
                        refine awp_skip ?_
                        refine awp_seq ?_
                        refine r1 T0_ok hP hm hN ?_
                        refine g1 ?_
                        refine awp_ret ?_
                        refine fin_mk [] rfl rfl ?_ trivial (by decide)
                        rfl
end Go.Proofs.Ytamdnmkdhpleiaa.Abs
