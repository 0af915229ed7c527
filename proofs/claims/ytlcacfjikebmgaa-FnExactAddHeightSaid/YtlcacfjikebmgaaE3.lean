import Derived.Test.YtlcacfjikebmgaaE2
set_option linter.unusedVariables false
set_option linter.unusedSimpArgs false
namespace Go.Proofs.Ytlcacfjikebmgaa.Abs
open Go Go.RowKit
noncomputable abbrev s_L_FnExactHeightsOf : Spec ((Int × Int × Int) × List Bk) where
  args := fun x => [pegs x.1, .sl 8 (bks x.2)]
  pre := fun x => isPegs x.1 ∧ ((∀ b ∈ x.2, isBk b) ∧ x.2.length ≤ 9223372036854775807)
  res := fun x => .val (.bool true)

set_option maxRecDepth 20000 in
set_option maxHeartbeats 8000000 in
theorem ok_L_FnExactHeightsOf : FnOk Pr 3 s_L_FnExactHeightsOf := by
  refine fn_ok 2 0 T0_ok Go.Proofs.Try.func3 rfl (enters_of Go.Proofs.Try.func3 rfl rfl) (fun _ => rfl) (fun _ => rfl) (fun _ => rfl) ?_
  rintro ⟨⟨a, b, c⟩, bs⟩ ⟨hp, ⟨hv, hl0⟩⟩ C hP hN hm hG
  change awp C _ _ ⟨[(0, .val (.agg #[.int .i16 a, .int .i16 b, .int .i16 c])), (1, .sl 8 (bks bs))], [], 0⟩
  simp only at hv hl0
  have hsl := htsR_len a b c bs
  refine awp_seq ?_
  refine r1 T0_ok hP hm hN ?_
  refine g1 ?_
  refine g1 ?_
  refine awp_seq ?_
  refine r1 T0_ok hP hm hN ?_
  refine g1 ?_
  refine awp_seq ?_
  refine r1 T0_ok hP hm hN ?_
  refine g1 ?_
  refine g1 ?_
  refine gc1 ?_ (call1 ok_L_szBookS (_, _) [] (hpre := by (try dsimp only); exact ⟨hl0, by omega, by omega⟩))
  refine g1 ?_
  refine awp_seq ?_
  refine awp_seq ?_
  refine r1 T0_ok hP hm hN ?_
  refine g1 ?_
  refine g1 ?_
  refine awp_cond rfl (fun hc0 => ?_) (fun hc0 => ?_)
  · skip
    refine awp_seq ?_
    refine r1 T0_ok hP hm hN ?_
    refine g1 ?_
    refine awp_ret ?_
    refine fin_mk [] rfl rfl ?_ trivial (by decide)
    rfl
  · skip
    have hl : bs.length ≤ 1048576 := by simp only [decide_eq_false_iff_not] at hc0; split at hc0 <;> omega
    refine awp_skip ?_
    refine awp_seq ?_
    refine r1 T0_ok hP hm hN ?_
    refine g1 ?_
    refine gc1 ?_ (call1 ok_L_toPegs (_, _, _) [] (hpre := by (try dsimp only); exact hp))
    refine g1 ?_
    refine gc1 ?_ (call1 ok_L_toBookS _ [] (hpre := by (try dsimp only); omega))
    refine gc1 ?_ (call1 ok_S_HeightsOf ((_, _, _), _) [] (hpre := by (try dsimp only); exact ⟨hp, hv, by omega⟩))
    refine g1 ?_
    refine g1 ?_
    refine g1 ?_
    refine g1 ?_
    refine g1 ?_
    refine awp_seq ?_
    refine r1 T0_ok hP hm hN ?_
    refine g1 ?_
    refine gc1 ?_ (call1 ok_L_toBookS _ [] (hpre := by (try dsimp only); omega))
    refine g1 ?_
    refine awp_seq ?_
    refine r1 T0_ok hP hm hN ?_
    refine g1 ?_
    refine gc1 ?_ (call1 ok_L_toPegs (_, _, _) [] (hpre := by (try dsimp only); exact hp))
    refine g1 ?_
    refine gc1 ?_ (call1 ok_I_HeightsOf ((_, _, _), _) [] (hpre := by (try dsimp only); exact ⟨hp, hv, by omega⟩))
    refine g1 ?_
    refine g1 ?_
    refine g1 ?_
    refine g1 ?_
    refine g1 ?_
    refine awp_seq ?_
    refine awp_seq ?_
    refine r1 T0_ok hP hm hN ?_
    refine g1 ?_
    refine g1 ?_
    refine gc1 ?_ (call1 ok_L_eqInt64S (_, _) [] (hpre := by (try dsimp only); omega))
    refine g1 ?_
    refine g1 ?_
    refine gg1 ?_
    refine gg1 ?_
    refine gg1 ?_
    refine g1 ?_
    refine awp_cond rfl (fun hc1 => ?_) (fun hc1 => ?_)
    · skip
      exfalso; first | (simp [ask] at hc1; done) | (simp [ask] at hc1; omega)
    · skip
      refine awp_skip ?_
      refine awp_seq ?_
      refine awp_seq ?_
      refine r1 T0_ok hP hm hN ?_
      refine g1 ?_
      refine g1 ?_
      refine gc1 ?_ (call1 ok_L_toBookS _ [] (hpre := by (try dsimp only); omega))
      refine gc1 ?_ (call1 ok_L_eqBookS (_, _) [] (hpre := by (try dsimp only); exact ⟨by omega, by omega⟩))
      refine g1 ?_
      refine awp_cond rfl (fun hc2 => ?_) (fun hc2 => ?_)
      · skip
        exfalso; first | (simp [ask] at hc2; done) | (simp [ask] at hc2; omega)
      · skip
        refine awp_skip ?_
        refine awp_seq ?_
        refine r1 T0_ok hP hm hN ?_
        refine g1 ?_
        refine awp_seq ?_
        refine r1 T0_ok hP hm hN ?_
        refine g1 ?_
        refine g1 ?_
        refine gc1 ?_ (call1 ok_L_markBookS (bs, _) [3] (hpre := by (try dsimp only); exact ⟨by omega, by omega, by omega⟩))
        refine g1 ?_
        refine awp_seq ?_
        refine awp_seq ?_
        refine r1 T0_ok hP hm hN ?_
        refine g1 ?_
        refine g1 ?_
        refine g1 ?_
        refine gg1 ?_
        refine gg1 ?_
        refine ggc1 ?_ (hs := by intro hb; simp +decide only [hb, gd_tt, gd_ff, beq_self_eq_true, Bool.true_and, beq_true]; exact ⟨rfl, _, call1 ok_L_eqInt64S (_, _) [] (hpre := by (try dsimp only); omega), rfl, rfl, rfl⟩)
        refine gg1 ?_
        refine g1 ?_
        refine g1 ?_
        refine gg1 ?_
        refine gg1 ?_
        refine gg1 ?_
        refine g1 ?_
        refine awp_cond rfl (fun hc3 => ?_) (fun hc3 => ?_)
        · skip
          exfalso; first | (simp [ask] at hc3; done) | (simp [ask] at hc3; omega)
        · skip
          refine awp_skip ?_
          refine awp_seq ?_
          refine r1 T0_ok hP hm hN ?_
          refine g1 ?_
          refine awp_seq ?_
          refine r1 T0_ok hP hm hN ?_
          refine g1 ?_
          refine g1 ?_
          refine gc1 ?_ (call1 ok_L_markInt64S ((htsR a b c bs).1, _) [4] (hpre := by (try dsimp only); exact ⟨by omega, by omega, by omega⟩))
          refine g1 ?_
          refine awp_seq ?_
          refine r1 T0_ok hP hm hN ?_
          refine g1 ?_
          refine awp_seq ?_
          refine r1 T0_ok hP hm hN ?_
          refine g1 ?_
          refine g1 ?_
          refine gc1 ?_ (call1 ok_L_heldInt64S (mkd_int (htsR a b c bs).1.length 1, _) [] (hpre := by (try dsimp only); exact ⟨by rw [mkd_int_len]; omega, by omega, by rw [mkd_int_len]; omega⟩)) (hst := by simp +decide (disch := omega) only [nrm, lk_nrm, dc_nrm, mk_nrm, mf_nrm, ti_nrm, ls_nrm, mp_nrm, nb_nrm, hset, pick_and, pick_or, ↓reduceIte, Nat.reduceAdd, wI64, wI32, wI16, wI8, wU8, List.length_map, Int.toNat_natCast, heldR_int_mkd]; rfl)
          refine g1 ?_
          refine awp_seq ?_
          refine awp_seq ?_
          refine r1 T0_ok hP hm hN ?_
          refine g1 ?_
          refine g1 ?_
          refine awp_cond rfl (fun hc4 => ?_) (fun hc4 => ?_)
          · skip
            exfalso; first | (simp [ask] at hc4; done) | (simp [ask] at hc4; omega)
          · skip
            refine awp_skip ?_
            refine awp_seq ?_
            refine awp_seq ?_
            refine r1 T0_ok hP hm hN ?_
            refine g1 ?_
            refine g1 ?_
            refine g1 ?_
            refine awp_cond rfl (fun hc5 => ?_) (fun hc5 => ?_)
            · skip
              exfalso; first | (simp [ask] at hc5; done) | (simp [ask] at hc5; omega)
            · skip
              refine awp_skip ?_
              refine awp_seq ?_
              refine r1 T0_ok hP hm hN ?_
              refine g1 ?_
              refine gc1 ?_ (call1 ok_L_toPegs (_, _, _) [] (hpre := by (try dsimp only); exact hp))
              refine g1 ?_
              refine gc1 ?_ (call1 ok_L_toBookS _ [] (hpre := by (try dsimp only); omega))
              refine gc1 ?_ (call1 ok_I_HeightsOf ((_, _, _), _) [] (hpre := by (try dsimp only); exact ⟨hp, hv, by omega⟩))
              refine g1 ?_
              refine g1 ?_
              refine g1 ?_
              refine g1 ?_
              refine g1 ?_
              refine awp_seq ?_
              refine awp_seq ?_
              refine r1 T0_ok hP hm hN ?_
              refine g1 ?_
              refine g1 ?_
              refine gc1 ?_ (call1 ok_L_eqInt64S (_, _) [] (hpre := by (try dsimp only); omega))
              refine g1 ?_
              refine g1 ?_
              refine gg1 ?_
              refine gg1 ?_
              refine gg1 ?_
              refine g1 ?_
              refine awp_cond rfl (fun hc6 => ?_) (fun hc6 => ?_)
              · skip
                exfalso; first | (simp [ask] at hc6; done) | (simp [ask] at hc6; omega)
              · skip
                refine awp_skip ?_
                refine awp_seq ?_
                refine r1 T0_ok hP hm hN ?_
                refine g1 ?_
                refine awp_seq ?_
                refine r1 T0_ok hP hm hN ?_
                refine g1 ?_
                refine g1 ?_
                refine gc1 ?_ (call1 ok_L_heldInt64S (mkd_int (htsR a b c bs).1.length 1, _) [] (hpre := by (try dsimp only); exact ⟨by rw [mkd_int_len]; omega, by omega, by rw [mkd_int_len]; omega⟩)) (hst := by simp +decide (disch := omega) only [nrm, lk_nrm, dc_nrm, mk_nrm, mf_nrm, ti_nrm, ls_nrm, mp_nrm, nb_nrm, hset, pick_and, pick_or, ↓reduceIte, Nat.reduceAdd, wI64, wI32, wI16, wI8, wU8, List.length_map, Int.toNat_natCast, heldR_int_mkd]; rfl)
                refine g1 ?_
                refine awp_seq ?_
                refine awp_seq ?_
                refine r1 T0_ok hP hm hN ?_
                refine g1 ?_
                refine g1 ?_
                refine awp_cond rfl (fun hc7 => ?_) (fun hc7 => ?_)
                · skip
                  exfalso; first | (simp [ask] at hc7; done) | (simp [ask] at hc7; omega)
                · skip
                  refine awp_skip ?_
                  refine awp_seq ?_
                  refine awp_seq ?_
                  refine r1 T0_ok hP hm hN ?_
                  refine g1 ?_
                  refine g1 ?_
                  refine g1 ?_
                  refine awp_cond rfl (fun hc8 => ?_) (fun hc8 => ?_)
                  · skip
                    exfalso; first | (simp [ask] at hc8; done) | (simp [ask] at hc8; omega)
                  · skip
                    refine awp_skip ?_
                    refine awp_seq ?_
                    refine r1 T0_ok hP hm hN ?_
                    refine g1 ?_
                    refine awp_ret ?_
                    refine fin_mk [] rfl rfl ?_ trivial (by decide)
                    rfl
end Go.Proofs.Ytlcacfjikebmgaa.Abs
