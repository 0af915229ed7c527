import Derived.Test.YtjainpgohfhcaaaG9
set_option linter.unusedVariables false
set_option linter.unusedSimpArgs false
namespace Go.Proofs.Ytjainpgohfhcaaa.Abs
open Go Go.RowKit
noncomputable abbrev s_L_FnExactShelvesBound : Spec ((Int × Int × Int) × List Int × List Bk × Int) where
  args := fun x => [pegs x.1, .sl 1 (i64s x.2.1), .sl 8 (bks x.2.2.1), .val (.int .i64 x.2.2.2)]
  pre := fun x => isPegs x.1 ∧ (I64s x.2.1 ∧ x.2.1.length ≤ 9223372036854775807) ∧ ((∀ b ∈ x.2.2.1, isBk b) ∧ x.2.2.1.length ≤ 9223372036854775807) ∧ (-9223372036854775808 ≤ x.2.2.2 ∧ x.2.2.2 ≤ 9223372036854775807)
  res := fun x => .val (.bool true)

set_option maxRecDepth 20000 in
set_option maxHeartbeats 8000000 in
theorem ok_L_FnExactShelvesBound : FnOk Pr 5 s_L_FnExactShelvesBound := by
  refine fn_ok 4 0 T0_ok Go.Proofs.Try.func5 rfl (enters_of Go.Proofs.Try.func5 rfl rfl) (fun _ => rfl) (fun _ => rfl) (fun _ => rfl) ?_
  rintro ⟨⟨a, b, c⟩, hs, bs, wide⟩ ⟨hp, ⟨_, hhl0⟩, ⟨hv, hl0⟩, hw1, hw2⟩ C hP hN hm hG
  change awp C _ _ ⟨[(0, .val (.agg #[.int .i16 a, .int .i16 b, .int .i16 c])), (1, .sl 1 (i64s hs)), (2, .sl 8 (bks bs)), (3, .val (.int .i64 wide))], [], 0⟩
  simp only at hhl0 hv hl0 hw1 hw2
  have hsl := shelO_len bndI a b c hs bs wide
  refine awp_seq ?_
  refine r1 T0_ok hP hm hN ?_
  refine g1 ?_
  refine g1 ?_
  refine awp_seq ?_
  refine awp_seq ?_
  refine r1 T0_ok hP hm hN ?_
  refine g1 ?_
  refine g1 ?_
  refine g1 ?_
  refine awp_cond rfl (fun hc0 => ?_) (fun hc0 => ?_)
  · skip
    refine awp_seq ?_
    refine r1 T0_ok hP hm hN ?_
    refine g1 ?_
    refine awp_ret ?_
    refine fin_mk [] rfl rfl ?_ trivial (by decide)
    rfl
  · skip
    have hhl : hs.length ≤ 1048576 := by simp only [decide_eq_false_iff_not] at hc0; omega
    refine awp_skip ?_
    refine awp_seq ?_
    refine r1 T0_ok hP hm hN ?_
    refine g1 ?_
    refine awp_seq ?_
    refine r1 T0_ok hP hm hN ?_
    refine g1 ?_
    refine g1 ?_
    refine gc1 ?_ (call1 ok_L_szBookS (_, _) [] (hpre := by (try dsimp only); exact ⟨hl0, by omega, by omega⟩))
    refine g1 ?_
    refine awp_seq ?_
    refine awp_seq ?_
    refine r1 T0_ok hP hm hN ?_
    refine g1 ?_
    refine g1 ?_
    refine awp_cond rfl (fun hc1 => ?_) (fun hc1 => ?_)
    · skip
      refine awp_seq ?_
      refine r1 T0_ok hP hm hN ?_
      refine g1 ?_
      refine awp_ret ?_
      refine fin_mk [] rfl rfl ?_ trivial (by decide)
      rfl
    · skip
      have hl : bs.length ≤ 1048576 := by simp only [decide_eq_false_iff_not] at hc1; split at hc1 <;> omega
      refine awp_skip ?_
      refine awp_seq ?_
      refine r1 T0_ok hP hm hN ?_
      refine g1 ?_
      refine gc1 ?_ (call1 ok_L_toPegs (_, _, _) [] (hpre := by (try dsimp only); first | trivial | exact ⟨ha, hb, hc⟩ | exact hp | assumption))
      refine g1 ?_
      refine gc1 ?_ (call1 ok_L_toInt64S _ [] (hpre := by (try dsimp only); omega))
      refine g1 ?_
      refine gc1 ?_ (call1 ok_L_toBookS _ [] (hpre := by (try dsimp only); omega))
      refine g1 ?_
      refine gc1 ?_ (call1 ok_S_ShelvesBound ((_, _, _), _, _, _) [] (hpre := by (try dsimp only); exact ⟨hp, by omega, ⟨hv, by omega⟩, by omega, by omega⟩))
      refine g1 ?_
      refine g1 ?_
      refine g1 ?_
      refine g1 ?_
      refine g1 ?_
      refine awp_seq ?_
      refine r1 T0_ok hP hm hN ?_
      refine g1 ?_
      refine gc1 ?_ (call1 ok_L_toInt64S _ [] (hpre := by (try dsimp only); omega))
      refine g1 ?_
      refine awp_seq ?_
      refine r1 T0_ok hP hm hN ?_
      refine g1 ?_
      refine gc1 ?_ (call1 ok_L_toBookS _ [] (hpre := by (try dsimp only); omega))
      refine g1 ?_
      refine awp_seq ?_
      refine r1 T0_ok hP hm hN ?_
      refine g1 ?_
      refine gc1 ?_ (call1 ok_L_toPegs (_, _, _) [] (hpre := by (try dsimp only); first | trivial | exact ⟨ha, hb, hc⟩ | exact hp | assumption))
      refine g1 ?_
      refine g1 ?_
      refine g1 ?_
      refine gc1 ?_ (call1 ok_I_ShelvesBound ((_, _, _), _, _, _) [] (hpre := by (try dsimp only); exact ⟨hp, by omega, ⟨hv, by omega⟩, by omega, by omega⟩))
      refine g1 ?_
      refine g1 ?_
      refine g1 ?_
      refine g1 ?_
      refine g1 ?_
      refine awp_seq ?_
      refine awp_seq ?_
      refine r1 T0_ok hP hm hN ?_
      refine g1 ?_
      refine g1 ?_
      refine gc1 ?_ (call1 ok_L_eqInt64S (_, _) [] (hpre := by (try dsimp only); omega))
      refine g1 ?_
      refine g1 ?_
      refine gg1 ?_
      refine gg1 ?_
      refine gg1 ?_
      refine g1 ?_
      refine awp_cond rfl (fun hc2 => ?_) (fun hc2 => ?_)
      · skip
        exfalso; first | (simp [ask] at hc2; done) | (simp [ask] at hc2; omega)
      · skip
        refine awp_skip ?_
        refine awp_seq ?_
        refine awp_seq ?_
        refine r1 T0_ok hP hm hN ?_
        refine g1 ?_
        refine g1 ?_
        refine gc1 ?_ (call1 ok_L_toInt64S _ [] (hpre := by (try dsimp only); omega))
        refine gc1 ?_ (call1 ok_L_eqInt64S (_, _) [] (hpre := by (try dsimp only); omega))
        refine g1 ?_
        refine awp_cond rfl (fun hc3 => ?_) (fun hc3 => ?_)
        · skip
          exfalso; first | (simp [ask] at hc3; done) | (simp [ask] at hc3; omega)
        · skip
          refine awp_skip ?_
          refine awp_seq ?_
          refine awp_seq ?_
          refine r1 T0_ok hP hm hN ?_
          refine g1 ?_
          refine g1 ?_
          refine gc1 ?_ (call1 ok_L_toBookS _ [] (hpre := by (try dsimp only); omega))
          refine gc1 ?_ (call1 ok_L_eqBookS (_, _) [] (hpre := by (try dsimp only); exact ⟨by omega, by omega⟩))
          refine g1 ?_
          refine awp_cond rfl (fun hc4 => ?_) (fun hc4 => ?_)
          · skip
            exfalso; first | (simp [ask] at hc4; done) | (simp [ask] at hc4; omega)
          · skip
            refine awp_skip ?_
            refine awp_seq ?_
            refine r1 T0_ok hP hm hN ?_
            refine g1 ?_
            refine awp_seq ?_
            refine r1 T0_ok hP hm hN ?_
            refine g1 ?_
            refine g1 ?_
            refine gc1 ?_ (call1 ok_L_markInt64S (hs, _) [4] (hpre := by (try dsimp only); exact ⟨by omega, by omega, by omega⟩))
            refine g1 ?_
            refine awp_seq ?_
            refine r1 T0_ok hP hm hN ?_
            refine g1 ?_
            refine g1 ?_
            refine gc1 ?_ (call1 ok_L_markBookS (bs, _) [5] (hpre := by (try dsimp only); exact ⟨by omega, by omega, by omega⟩))
            refine g1 ?_
            refine awp_seq ?_
            refine awp_seq ?_
            refine r1 T0_ok hP hm hN ?_
            refine g1 ?_
            refine g1 ?_
            refine g1 ?_
            refine gg1 ?_
            refine gg1 ?_
            refine ggc1 ?_ (hs := by intro hb; simp +decide only [hb, gd_tt, gd_ff, beq_self_eq_true, Bool.true_and, beq_true]; exact ⟨rfl, _, call1 ok_L_eqInt64S (_, _) [] (hpre := by (try dsimp only); omega), rfl, rfl, rfl⟩)
            refine gg1 ?_
            refine g1 ?_
            refine g1 ?_
            refine gg1 ?_
            refine gg1 ?_
            refine gg1 ?_
            refine g1 ?_
            refine awp_cond rfl (fun hc5 => ?_) (fun hc5 => ?_)
            · skip
              exfalso; first | (simp [ask] at hc5; done) | (simp [ask] at hc5; omega)
            · skip
              refine awp_skip ?_
              refine awp_seq ?_
              refine r1 T0_ok hP hm hN ?_
              refine g1 ?_
              refine awp_seq ?_
              refine r1 T0_ok hP hm hN ?_
              refine g1 ?_
              refine g1 ?_
              refine gc1 ?_ (call1 ok_L_markInt64S ((shelO bndI a b c hs bs wide).1, _) [6] (hpre := by (try dsimp only); exact ⟨by omega, by omega, by omega⟩))
              refine g1 ?_
              refine awp_seq ?_
              refine r1 T0_ok hP hm hN ?_
              refine g1 ?_
              refine awp_seq ?_
              refine r1 T0_ok hP hm hN ?_
              refine g1 ?_
              refine g1 ?_
              refine gc1 ?_ (call1 ok_L_heldInt64S (mkd_int (shelO bndI a b c hs bs wide).1.length 1, _) [] (hpre := by (try dsimp only); exact ⟨by rw [mkd_int_len]; omega, by omega, by rw [mkd_int_len]; omega⟩)) (hst := by simp +decide (disch := omega) only [nrm, lk_nrm, dc_nrm, mk_nrm, mf_nrm, ti_nrm, ls_nrm, mp_nrm, nb_nrm, hset, pick_and, pick_or, ↓reduceIte, Nat.reduceAdd, wI64, wI32, wI16, wI8, wU8, List.length_map, Int.toNat_natCast, heldR_int_mkd]; rfl)
              refine g1 ?_
              refine awp_seq ?_
              refine awp_seq ?_
              refine r1 T0_ok hP hm hN ?_
              refine g1 ?_
              refine g1 ?_
              refine awp_cond rfl (fun hc6 => ?_) (fun hc6 => ?_)
              · skip
                exfalso; first | (simp [ask] at hc6; done) | (simp [ask] at hc6; omega)
              · skip
                refine awp_skip ?_
                refine awp_seq ?_
                refine awp_seq ?_
                refine r1 T0_ok hP hm hN ?_
                refine g1 ?_
                refine g1 ?_
                refine g1 ?_
                refine awp_cond rfl (fun hc7 => ?_) (fun hc7 => ?_)
                · skip
                  exfalso; first | (simp [ask] at hc7; done) | (simp [ask] at hc7; omega)
                · skip
                  refine awp_skip ?_
                  refine awp_seq ?_
                  refine r1 T0_ok hP hm hN ?_
                  refine g1 ?_
                  refine gc1 ?_ (call1 ok_L_toPegs (_, _, _) [] (hpre := by (try dsimp only); first | trivial | exact ⟨ha, hb, hc⟩ | exact hp | assumption))
                  refine g1 ?_
                  refine gc1 ?_ (call1 ok_L_toInt64S _ [] (hpre := by (try dsimp only); omega))
                  refine g1 ?_
                  refine gc1 ?_ (call1 ok_L_toBookS _ [] (hpre := by (try dsimp only); omega))
                  refine g1 ?_
                  refine gc1 ?_ (call1 ok_I_ShelvesBound ((_, _, _), _, _, _) [] (hpre := by (try dsimp only); exact ⟨hp, by omega, ⟨hv, by omega⟩, by omega, by omega⟩))
                  refine g1 ?_
                  refine g1 ?_
                  refine g1 ?_
                  refine g1 ?_
                  refine g1 ?_
                  refine awp_seq ?_
                  refine awp_seq ?_
                  refine r1 T0_ok hP hm hN ?_
                  refine g1 ?_
                  refine g1 ?_
                  refine gc1 ?_ (call1 ok_L_eqInt64S (_, _) [] (hpre := by (try dsimp only); omega))
                  refine g1 ?_
                  refine g1 ?_
                  refine gg1 ?_
                  refine gg1 ?_
                  refine gg1 ?_
                  refine g1 ?_
                  refine awp_cond rfl (fun hc8 => ?_) (fun hc8 => ?_)
                  · skip
                    exfalso; first | (simp [ask] at hc8; done) | (simp [ask] at hc8; omega)
                  · skip
                    refine awp_skip ?_
                    refine awp_seq ?_
                    refine r1 T0_ok hP hm hN ?_
                    refine g1 ?_
                    refine awp_seq ?_
                    refine r1 T0_ok hP hm hN ?_
                    refine g1 ?_
                    refine g1 ?_
                    refine gc1 ?_ (call1 ok_L_heldInt64S (mkd_int (shelO bndI a b c hs bs wide).1.length 1, _) [] (hpre := by (try dsimp only); exact ⟨by rw [mkd_int_len]; omega, by omega, by rw [mkd_int_len]; omega⟩)) (hst := by simp +decide (disch := omega) only [nrm, lk_nrm, dc_nrm, mk_nrm, mf_nrm, ti_nrm, ls_nrm, mp_nrm, nb_nrm, hset, pick_and, pick_or, ↓reduceIte, Nat.reduceAdd, wI64, wI32, wI16, wI8, wU8, List.length_map, Int.toNat_natCast, heldR_int_mkd]; rfl)
                    refine g1 ?_
                    refine awp_seq ?_
                    refine awp_seq ?_
                    refine r1 T0_ok hP hm hN ?_
                    refine g1 ?_
                    refine g1 ?_
                    refine awp_cond rfl (fun hc9 => ?_) (fun hc9 => ?_)
                    · skip
                      exfalso; first | (simp [ask] at hc9; done) | (simp [ask] at hc9; omega)
                    · skip
                      refine awp_skip ?_
                      refine awp_seq ?_
                      refine awp_seq ?_
                      refine r1 T0_ok hP hm hN ?_
                      refine g1 ?_
                      refine g1 ?_
                      refine g1 ?_
                      refine awp_cond rfl (fun hc10 => ?_) (fun hc10 => ?_)
                      · skip
                        exfalso; first | (simp [ask] at hc10; done) | (simp [ask] at hc10; omega)
                      · skip
                        refine awp_skip ?_
                        refine awp_seq ?_
                        refine r1 T0_ok hP hm hN ?_
                        refine g1 ?_
                        refine awp_ret ?_
                        refine fin_mk [] rfl rfl ?_ trivial (by decide)
                        rfl

noncomputable abbrev s_L_FnExactShelvesNeeded : Spec ((Int × Int × Int) × List Int × List Bk × Int) where
  args := fun x => [pegs x.1, .sl 1 (i64s x.2.1), .sl 8 (bks x.2.2.1), .val (.int .i64 x.2.2.2)]
  pre := fun x => isPegs x.1 ∧ (I64s x.2.1 ∧ x.2.1.length ≤ 9223372036854775807) ∧ ((∀ b ∈ x.2.2.1, isBk b) ∧ x.2.2.1.length ≤ 9223372036854775807) ∧ (-9223372036854775808 ≤ x.2.2.2 ∧ x.2.2.2 ≤ 9223372036854775807)
  res := fun x => .val (.bool true)

set_option maxRecDepth 20000 in
set_option maxHeartbeats 8000000 in
theorem ok_L_FnExactShelvesNeeded : FnOk Pr 6 s_L_FnExactShelvesNeeded := by
  refine fn_ok 4 0 T0_ok Go.Proofs.Try.func6 rfl (enters_of Go.Proofs.Try.func6 rfl rfl) (fun _ => rfl) (fun _ => rfl) (fun _ => rfl) ?_
  rintro ⟨⟨a, b, c⟩, hs, bs, wide⟩ ⟨hp, ⟨_, hhl0⟩, ⟨hv, hl0⟩, hw1, hw2⟩ C hP hN hm hG
  change awp C _ _ ⟨[(0, .val (.agg #[.int .i16 a, .int .i16 b, .int .i16 c])), (1, .sl 1 (i64s hs)), (2, .sl 8 (bks bs)), (3, .val (.int .i64 wide))], [], 0⟩
  simp only at hhl0 hv hl0 hw1 hw2
  have hsl := shelO_len nedI a b c hs bs wide
  refine awp_seq ?_
  refine r1 T0_ok hP hm hN ?_
  refine g1 ?_
  refine g1 ?_
  refine awp_seq ?_
  refine awp_seq ?_
  refine r1 T0_ok hP hm hN ?_
  refine g1 ?_
  refine g1 ?_
  refine g1 ?_
  refine awp_cond rfl (fun hc0 => ?_) (fun hc0 => ?_)
  · skip
    refine awp_seq ?_
    refine r1 T0_ok hP hm hN ?_
    refine g1 ?_
    refine awp_ret ?_
    refine fin_mk [] rfl rfl ?_ trivial (by decide)
    rfl
  · skip
    have hhl : hs.length ≤ 1048576 := by simp only [decide_eq_false_iff_not] at hc0; omega
    refine awp_skip ?_
    refine awp_seq ?_
    refine r1 T0_ok hP hm hN ?_
    refine g1 ?_
    refine awp_seq ?_
    refine r1 T0_ok hP hm hN ?_
    refine g1 ?_
    refine g1 ?_
    refine gc1 ?_ (call1 ok_L_szBookS (_, _) [] (hpre := by (try dsimp only); exact ⟨hl0, by omega, by omega⟩))
    refine g1 ?_
    refine awp_seq ?_
    refine awp_seq ?_
    refine r1 T0_ok hP hm hN ?_
    refine g1 ?_
    refine g1 ?_
    refine awp_cond rfl (fun hc1 => ?_) (fun hc1 => ?_)
    · skip
      refine awp_seq ?_
      refine r1 T0_ok hP hm hN ?_
      refine g1 ?_
      refine awp_ret ?_
      refine fin_mk [] rfl rfl ?_ trivial (by decide)
      rfl
    · skip
      have hl : bs.length ≤ 1048576 := by simp only [decide_eq_false_iff_not] at hc1; split at hc1 <;> omega
      refine awp_skip ?_
      refine awp_seq ?_
      refine r1 T0_ok hP hm hN ?_
      refine g1 ?_
      refine gc1 ?_ (call1 ok_L_toPegs (_, _, _) [] (hpre := by (try dsimp only); first | trivial | exact ⟨ha, hb, hc⟩ | exact hp | assumption))
      refine g1 ?_
      refine gc1 ?_ (call1 ok_L_toInt64S _ [] (hpre := by (try dsimp only); omega))
      refine g1 ?_
      refine gc1 ?_ (call1 ok_L_toBookS _ [] (hpre := by (try dsimp only); omega))
      refine g1 ?_
      refine gc1 ?_ (call1 ok_S_ShelvesNeeded ((_, _, _), _, _, _) [] (hpre := by (try dsimp only); exact ⟨hp, by omega, ⟨hv, by omega⟩, by omega, by omega⟩))
      refine g1 ?_
      refine g1 ?_
      refine g1 ?_
      refine g1 ?_
      refine g1 ?_
      refine awp_seq ?_
      refine r1 T0_ok hP hm hN ?_
      refine g1 ?_
      refine gc1 ?_ (call1 ok_L_toInt64S _ [] (hpre := by (try dsimp only); omega))
      refine g1 ?_
      refine awp_seq ?_
      refine r1 T0_ok hP hm hN ?_
      refine g1 ?_
      refine gc1 ?_ (call1 ok_L_toBookS _ [] (hpre := by (try dsimp only); omega))
      refine g1 ?_
      refine awp_seq ?_
      refine r1 T0_ok hP hm hN ?_
      refine g1 ?_
      refine gc1 ?_ (call1 ok_L_toPegs (_, _, _) [] (hpre := by (try dsimp only); first | trivial | exact ⟨ha, hb, hc⟩ | exact hp | assumption))
      refine g1 ?_
      refine g1 ?_
      refine g1 ?_
      refine gc1 ?_ (call1 ok_I_ShelvesNeeded ((_, _, _), _, _, _) [] (hpre := by (try dsimp only); exact ⟨hp, by omega, ⟨hv, by omega⟩, by omega, by omega⟩))
      refine g1 ?_
      refine g1 ?_
      refine g1 ?_
      refine g1 ?_
      refine g1 ?_
      refine awp_seq ?_
      refine awp_seq ?_
      refine r1 T0_ok hP hm hN ?_
      refine g1 ?_
      refine g1 ?_
      refine gc1 ?_ (call1 ok_L_eqInt64S (_, _) [] (hpre := by (try dsimp only); omega))
      refine g1 ?_
      refine g1 ?_
      refine gg1 ?_
      refine gg1 ?_
      refine gg1 ?_
      refine g1 ?_
      refine awp_cond rfl (fun hc2 => ?_) (fun hc2 => ?_)
      · skip
        exfalso; first | (simp [ask] at hc2; done) | (simp [ask] at hc2; omega)
      · skip
        refine awp_skip ?_
        refine awp_seq ?_
        refine awp_seq ?_
        refine r1 T0_ok hP hm hN ?_
        refine g1 ?_
        refine g1 ?_
        refine gc1 ?_ (call1 ok_L_toInt64S _ [] (hpre := by (try dsimp only); omega))
        refine gc1 ?_ (call1 ok_L_eqInt64S (_, _) [] (hpre := by (try dsimp only); omega))
        refine g1 ?_
        refine awp_cond rfl (fun hc3 => ?_) (fun hc3 => ?_)
        · skip
          exfalso; first | (simp [ask] at hc3; done) | (simp [ask] at hc3; omega)
        · skip
          refine awp_skip ?_
          refine awp_seq ?_
          refine awp_seq ?_
          refine r1 T0_ok hP hm hN ?_
          refine g1 ?_
          refine g1 ?_
          refine gc1 ?_ (call1 ok_L_toBookS _ [] (hpre := by (try dsimp only); omega))
          refine gc1 ?_ (call1 ok_L_eqBookS (_, _) [] (hpre := by (try dsimp only); exact ⟨by omega, by omega⟩))
          refine g1 ?_
          refine awp_cond rfl (fun hc4 => ?_) (fun hc4 => ?_)
          · skip
            exfalso; first | (simp [ask] at hc4; done) | (simp [ask] at hc4; omega)
          · skip
            refine awp_skip ?_
            refine awp_seq ?_
            refine r1 T0_ok hP hm hN ?_
            refine g1 ?_
            refine awp_seq ?_
            refine r1 T0_ok hP hm hN ?_
            refine g1 ?_
            refine g1 ?_
            refine gc1 ?_ (call1 ok_L_markInt64S (hs, _) [4] (hpre := by (try dsimp only); exact ⟨by omega, by omega, by omega⟩))
            refine g1 ?_
            refine awp_seq ?_
            refine r1 T0_ok hP hm hN ?_
            refine g1 ?_
            refine g1 ?_
            refine gc1 ?_ (call1 ok_L_markBookS (bs, _) [5] (hpre := by (try dsimp only); exact ⟨by omega, by omega, by omega⟩))
            refine g1 ?_
            refine awp_seq ?_
            refine awp_seq ?_
            refine r1 T0_ok hP hm hN ?_
            refine g1 ?_
            refine g1 ?_
            refine g1 ?_
            refine gg1 ?_
            refine gg1 ?_
            refine ggc1 ?_ (hs := by intro hb; simp +decide only [hb, gd_tt, gd_ff, beq_self_eq_true, Bool.true_and, beq_true]; exact ⟨rfl, _, call1 ok_L_eqInt64S (_, _) [] (hpre := by (try dsimp only); omega), rfl, rfl, rfl⟩)
            refine gg1 ?_
            refine g1 ?_
            refine g1 ?_
            refine gg1 ?_
            refine gg1 ?_
            refine gg1 ?_
            refine g1 ?_
            refine awp_cond rfl (fun hc5 => ?_) (fun hc5 => ?_)
            · skip
              exfalso; first | (simp [ask] at hc5; done) | (simp [ask] at hc5; omega)
            · skip
              refine awp_skip ?_
              refine awp_seq ?_
              refine r1 T0_ok hP hm hN ?_
              refine g1 ?_
              refine awp_seq ?_
              refine r1 T0_ok hP hm hN ?_
              refine g1 ?_
              refine g1 ?_
              refine gc1 ?_ (call1 ok_L_markInt64S ((shelO nedI a b c hs bs wide).1, _) [6] (hpre := by (try dsimp only); exact ⟨by omega, by omega, by omega⟩))
              refine g1 ?_
              refine awp_seq ?_
              refine r1 T0_ok hP hm hN ?_
              refine g1 ?_
              refine awp_seq ?_
              refine r1 T0_ok hP hm hN ?_
              refine g1 ?_
              refine g1 ?_
              refine gc1 ?_ (call1 ok_L_heldInt64S (mkd_int (shelO nedI a b c hs bs wide).1.length 1, _) [] (hpre := by (try dsimp only); exact ⟨by rw [mkd_int_len]; omega, by omega, by rw [mkd_int_len]; omega⟩)) (hst := by simp +decide (disch := omega) only [nrm, lk_nrm, dc_nrm, mk_nrm, mf_nrm, ti_nrm, ls_nrm, mp_nrm, nb_nrm, hset, pick_and, pick_or, ↓reduceIte, Nat.reduceAdd, wI64, wI32, wI16, wI8, wU8, List.length_map, Int.toNat_natCast, heldR_int_mkd]; rfl)
              refine g1 ?_
              refine awp_seq ?_
              refine awp_seq ?_
              refine r1 T0_ok hP hm hN ?_
              refine g1 ?_
              refine g1 ?_
              refine awp_cond rfl (fun hc6 => ?_) (fun hc6 => ?_)
              · skip
                exfalso; first | (simp [ask] at hc6; done) | (simp [ask] at hc6; omega)
              · skip
                refine awp_skip ?_
                refine awp_seq ?_
                refine awp_seq ?_
                refine r1 T0_ok hP hm hN ?_
                refine g1 ?_
                refine g1 ?_
                refine g1 ?_
                refine awp_cond rfl (fun hc7 => ?_) (fun hc7 => ?_)
                · skip
                  exfalso; first | (simp [ask] at hc7; done) | (simp [ask] at hc7; omega)
                · skip
                  refine awp_skip ?_
                  refine awp_seq ?_
                  refine r1 T0_ok hP hm hN ?_
                  refine g1 ?_
                  refine gc1 ?_ (call1 ok_L_toPegs (_, _, _) [] (hpre := by (try dsimp only); first | trivial | exact ⟨ha, hb, hc⟩ | exact hp | assumption))
                  refine g1 ?_
                  refine gc1 ?_ (call1 ok_L_toInt64S _ [] (hpre := by (try dsimp only); omega))
                  refine g1 ?_
                  refine gc1 ?_ (call1 ok_L_toBookS _ [] (hpre := by (try dsimp only); omega))
                  refine g1 ?_
                  refine gc1 ?_ (call1 ok_I_ShelvesNeeded ((_, _, _), _, _, _) [] (hpre := by (try dsimp only); exact ⟨hp, by omega, ⟨hv, by omega⟩, by omega, by omega⟩))
                  refine g1 ?_
                  refine g1 ?_
                  refine g1 ?_
                  refine g1 ?_
                  refine g1 ?_
                  refine awp_seq ?_
                  refine awp_seq ?_
                  refine r1 T0_ok hP hm hN ?_
                  refine g1 ?_
                  refine g1 ?_
                  refine gc1 ?_ (call1 ok_L_eqInt64S (_, _) [] (hpre := by (try dsimp only); omega))
                  refine g1 ?_
                  refine g1 ?_
                  refine gg1 ?_
                  refine gg1 ?_
                  refine gg1 ?_
                  refine g1 ?_
                  refine awp_cond rfl (fun hc8 => ?_) (fun hc8 => ?_)
                  · skip
                    exfalso; first | (simp [ask] at hc8; done) | (simp [ask] at hc8; omega)
                  · skip
                    refine awp_skip ?_
                    refine awp_seq ?_
                    refine r1 T0_ok hP hm hN ?_
                    refine g1 ?_
                    refine awp_seq ?_
                    refine r1 T0_ok hP hm hN ?_
                    refine g1 ?_
                    refine g1 ?_
                    refine gc1 ?_ (call1 ok_L_heldInt64S (mkd_int (shelO nedI a b c hs bs wide).1.length 1, _) [] (hpre := by (try dsimp only); exact ⟨by rw [mkd_int_len]; omega, by omega, by rw [mkd_int_len]; omega⟩)) (hst := by simp +decide (disch := omega) only [nrm, lk_nrm, dc_nrm, mk_nrm, mf_nrm, ti_nrm, ls_nrm, mp_nrm, nb_nrm, hset, pick_and, pick_or, ↓reduceIte, Nat.reduceAdd, wI64, wI32, wI16, wI8, wU8, List.length_map, Int.toNat_natCast, heldR_int_mkd]; rfl)
                    refine g1 ?_
                    refine awp_seq ?_
                    refine awp_seq ?_
                    refine r1 T0_ok hP hm hN ?_
                    refine g1 ?_
                    refine g1 ?_
                    refine awp_cond rfl (fun hc9 => ?_) (fun hc9 => ?_)
                    · skip
                      exfalso; first | (simp [ask] at hc9; done) | (simp [ask] at hc9; omega)
                    · skip
                      refine awp_skip ?_
                      refine awp_seq ?_
                      refine awp_seq ?_
                      refine r1 T0_ok hP hm hN ?_
                      refine g1 ?_
                      refine g1 ?_
                      refine g1 ?_
                      refine awp_cond rfl (fun hc10 => ?_) (fun hc10 => ?_)
                      · skip
                        exfalso; first | (simp [ask] at hc10; done) | (simp [ask] at hc10; omega)
                      · skip
                        refine awp_skip ?_
                        refine awp_seq ?_
                        refine r1 T0_ok hP hm hN ?_
                        refine g1 ?_
                        refine awp_ret ?_
                        refine fin_mk [] rfl rfl ?_ trivial (by decide)
                        rfl
end Go.Proofs.Ytjainpgohfhcaaa.Abs
