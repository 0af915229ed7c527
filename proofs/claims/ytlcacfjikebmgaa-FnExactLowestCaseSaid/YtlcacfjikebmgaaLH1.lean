import Derived.Test.YtlcacfjikebmgaaLG9
set_option linter.unusedVariables false
set_option linter.unusedSimpArgs false
namespace Go.Proofs.Ytlcacfjikebmgaa.Abs
open Go Go.RowKit
noncomputable abbrev s_L_FnExactLowestCase : Spec ((Int × Int × Int) × List Bk × Int) where
  args := fun x => [pegs x.1, .sl 8 (bks x.2.1), .val (.int .i64 x.2.2)]
  pre := fun x => isPegs x.1 ∧ ((∀ b ∈ x.2.1, isBk b) ∧ x.2.1.length ≤ 9223372036854775807) ∧ (-9223372036854775808 ≤ x.2.2 ∧ x.2.2 ≤ 9223372036854775807)
  res := fun x => .val (.bool true)

set_option maxRecDepth 20000 in
set_option maxHeartbeats 8000000 in
theorem ok_L_FnExactLowestCase : FnOk Pr 6 s_L_FnExactLowestCase := by
  refine fn_ok 3 0 T0_ok Go.Proofs.Try.func6 rfl (enters_of Go.Proofs.Try.func6 rfl rfl) (fun _ => rfl) (fun _ => rfl) (fun _ => rfl) ?_
  rintro ⟨⟨a, b, c⟩, bs, wide⟩ ⟨hp, ⟨hv, hl0⟩, hc1, hc2⟩ C hP hN hm hG
  change awp C _ _ ⟨[(0, .val (.agg #[.int .i16 a, .int .i16 b, .int .i16 c])), (1, .sl 8 (bks bs)), (2, .val (.int .i64 wide))], [], 0⟩
  simp only at hv hl0 hc1 hc2
  have hsl := lowR_len a b c bs wide
  refine awp_seq ?_
  refine r1 T0_ok hP hm hN ?_
  refine g1 ?_
  refine g1 ?_
  refine awp_seq ?_
  refine r1 T0_ok hP hm hN ?_
  refine g1 ?_
  refine awp_seq ?_
  refine r1 T0_ok hP hm hN ?_
  refine g1 ?_
  refine g1 ?_
  refine gc1 ?_ (call1 ok_L_szBookS (_, _) [] (hpre := by (try dsimp only); exact ⟨hl0, by omega, by omega⟩))
  refine g1 ?_
  refine awp_seq ?_
  refine awp_seq ?_
  refine r1 T0_ok hP hm hN ?_
  refine g1 ?_
  refine g1 ?_
  refine awp_cond rfl (fun hc20 => ?_) (fun hc20 => ?_)
  · skip
    refine awp_seq ?_
    refine r1 T0_ok hP hm hN ?_
    refine g1 ?_
    refine awp_ret ?_
    refine fin_mk [] rfl rfl ?_ trivial (by decide)
    rfl
  · skip
    have hl : bs.length ≤ 1048576 := by simp only [decide_eq_false_iff_not] at hc20; split at hc20 <;> omega
    refine awp_skip ?_
    refine awp_seq ?_
    refine r1 T0_ok hP hm hN ?_
    refine g1 ?_
    refine gc1 ?_ (call1 ok_L_toPegs (_, _, _) [] (hpre := by (try dsimp only); exact hp))
    refine g1 ?_
    refine gc1 ?_ (call1 ok_L_toBookS _ [] (hpre := by (try dsimp only); omega))
    refine g1 ?_
    refine gc1 ?_ (call1 ok_S_LowestCase ((_, _, _), _, _) [] (hpre := by (try dsimp only); exact ⟨hp, ⟨hv, by omega⟩, hc1, hc2⟩))
    refine g1 ?_
    refine g1 ?_
    refine g1 ?_
    refine g1 ?_
    refine g1 ?_
    refine g1 ?_
    refine g1 ?_
    refine awp_seq ?_
    refine r1 T0_ok hP hm hN ?_
    refine g1 ?_
    refine gc1 ?_ (call1 ok_L_toBookS _ [] (hpre := by (try dsimp only); omega))
    refine g1 ?_
    refine awp_seq ?_
    refine r1 T0_ok hP hm hN ?_
    refine g1 ?_
    refine gc1 ?_ (call1 ok_L_toPegs (_, _, _) [] (hpre := by (try dsimp only); exact hp))
    refine g1 ?_
    refine g1 ?_
    refine gc1 ?_ (call1 ok_I_LowestCase ((_, _, _), _, _) [] (hpre := by (try dsimp only); exact ⟨hp, ⟨hv, by omega⟩, hc1, hc2⟩))
    refine g1 ?_
    refine g1 ?_
    refine g1 ?_
    refine g1 ?_
    refine g1 ?_
    refine g1 ?_
    refine g1 ?_
    refine awp_seq ?_
    refine awp_seq ?_
    refine r1 T0_ok hP hm hN ?_
    refine g1 ?_
    refine g1 ?_
    refine gc1 ?_ (call1 ok_L_eqInt64S (_, _) [] (hpre := by (try dsimp only); omega))
    refine g1 ?_
    refine g1 ?_
    refine gg1 ?_
    refine gg1 ?_
    refine gg1 ?_
    refine g1 ?_
    refine g1 ?_
    refine gg1 ?_
    refine gg1 ?_
    refine gg1 ?_
    refine g1 ?_
    refine awp_cond rfl (fun hc21 => ?_) (fun hc21 => ?_)
    · skip
      exfalso; first | (simp [ask] at hc21; done) | (simp [ask] at hc21; omega)
    · skip
      refine awp_skip ?_
      refine awp_seq ?_
      refine awp_seq ?_
      refine r1 T0_ok hP hm hN ?_
      refine g1 ?_
      refine g1 ?_
      refine gc1 ?_ (call1 ok_L_toBookS _ [] (hpre := by (try dsimp only); omega))
      refine gc1 ?_ (call1 ok_L_eqBookS (_, _) [] (hpre := by (try dsimp only); exact ⟨by omega, by omega⟩))
      refine g1 ?_
      refine awp_cond rfl (fun hc22 => ?_) (fun hc22 => ?_)
      · skip
        exfalso; first | (simp [ask] at hc22; done) | (simp [ask] at hc22; omega)
      · skip
        refine awp_skip ?_
        refine awp_seq ?_
        refine r1 T0_ok hP hm hN ?_
        refine g1 ?_
        refine awp_seq ?_
        refine r1 T0_ok hP hm hN ?_
        refine g1 ?_
        refine g1 ?_
        refine gc1 ?_ (call1 ok_L_markBookS (bs, _) [3] (hpre := by (try dsimp only); exact ⟨by omega, by omega, by omega⟩))
        refine g1 ?_
        refine awp_seq ?_
        refine awp_seq ?_
        refine r1 T0_ok hP hm hN ?_
        refine g1 ?_
        refine g1 ?_
        refine g1 ?_
        refine gg1 ?_
        refine gg1 ?_
        refine ggc1 ?_ (hs := by intro hb; simp +decide only [hb, gd_tt, gd_ff, beq_self_eq_true, Bool.true_and, beq_true]; exact ⟨rfl, _, call1 ok_L_eqInt64S (_, _) [] (hpre := by (try dsimp only); omega), rfl, rfl, rfl⟩)
        refine gg1 ?_
        refine g1 ?_
        refine g1 ?_
        refine gg1 ?_
        refine gg1 ?_
        refine gg1 ?_
        refine g1 ?_
        refine g1 ?_
        refine gg1 ?_
        refine gg1 ?_
        refine gg1 ?_
        refine g1 ?_
        refine awp_cond rfl (fun hc23 => ?_) (fun hc23 => ?_)
        · skip
          exfalso; first | (simp [ask] at hc23; done) | (simp [ask] at hc23; omega)
        · skip
          refine awp_skip ?_
          refine awp_seq ?_
          refine r1 T0_ok hP hm hN ?_
          refine g1 ?_
          refine awp_seq ?_
          refine r1 T0_ok hP hm hN ?_
          refine g1 ?_
          refine g1 ?_
          refine gc1 ?_ (call1 ok_L_markInt64S ((lowR a b c bs wide).1, _) [4] (hpre := by (try dsimp only); exact ⟨by omega, by omega, by omega⟩))
          refine g1 ?_
          refine awp_seq ?_
          refine r1 T0_ok hP hm hN ?_
          refine g1 ?_
          refine awp_seq ?_
          refine r1 T0_ok hP hm hN ?_
          refine g1 ?_
          refine g1 ?_
          refine gc1 ?_ (call1 ok_L_heldInt64S (mkd_int (lowR a b c bs wide).1.length 1, _) [] (hpre := by (try dsimp only); exact ⟨by rw [mkd_int_len]; omega, by omega, by rw [mkd_int_len]; omega⟩)) (hst := by simp +decide (disch := omega) only [nrm, lk_nrm, dc_nrm, mk_nrm, mf_nrm, ti_nrm, ls_nrm, mp_nrm, nb_nrm, hset, pick_and, pick_or, ↓reduceIte, Nat.reduceAdd, wI64, wI32, wI16, wI8, wU8, List.length_map, Int.toNat_natCast, heldR_int_mkd]; rfl)
          refine g1 ?_
          refine awp_seq ?_
          refine awp_seq ?_
          refine r1 T0_ok hP hm hN ?_
          refine g1 ?_
          refine g1 ?_
          refine awp_cond rfl (fun hc24 => ?_) (fun hc24 => ?_)
          · skip
            exfalso; first | (simp [ask] at hc24; done) | (simp [ask] at hc24; omega)
          · skip
            refine awp_skip ?_
            refine awp_seq ?_
            refine awp_seq ?_
            refine r1 T0_ok hP hm hN ?_
            refine g1 ?_
            refine g1 ?_
            refine g1 ?_
            refine awp_cond rfl (fun hc25 => ?_) (fun hc25 => ?_)
            · skip
              exfalso; first | (simp [ask] at hc25; done) | (simp [ask] at hc25; omega)
            · skip
              refine awp_skip ?_
              refine awp_seq ?_
              refine r1 T0_ok hP hm hN ?_
              refine g1 ?_
              refine gc1 ?_ (call1 ok_L_toPegs (_, _, _) [] (hpre := by (try dsimp only); exact hp))
              refine g1 ?_
              refine gc1 ?_ (call1 ok_L_toBookS _ [] (hpre := by (try dsimp only); omega))
              refine g1 ?_
              refine gc1 ?_ (call1 ok_I_LowestCase ((_, _, _), _, _) [] (hpre := by (try dsimp only); exact ⟨hp, ⟨hv, by omega⟩, hc1, hc2⟩))
              refine g1 ?_
              refine g1 ?_
              refine g1 ?_
              refine g1 ?_
              refine g1 ?_
              refine g1 ?_
              refine g1 ?_
              refine awp_seq ?_
              refine awp_seq ?_
              refine r1 T0_ok hP hm hN ?_
              refine g1 ?_
              refine g1 ?_
              refine gc1 ?_ (call1 ok_L_eqInt64S (_, _) [] (hpre := by (try dsimp only); omega))
              refine g1 ?_
              refine g1 ?_
              refine gg1 ?_
              refine gg1 ?_
              refine gg1 ?_
              refine g1 ?_
              refine g1 ?_
              refine gg1 ?_
              refine gg1 ?_
              refine gg1 ?_
              refine g1 ?_
              refine awp_cond rfl (fun hc26 => ?_) (fun hc26 => ?_)
              · skip
                exfalso; first | (simp [ask] at hc26; done) | (simp [ask] at hc26; omega)
              · skip
                refine awp_skip ?_
                refine awp_seq ?_
                refine r1 T0_ok hP hm hN ?_
                refine g1 ?_
                refine awp_seq ?_
                refine r1 T0_ok hP hm hN ?_
                refine g1 ?_
                refine g1 ?_
                refine gc1 ?_ (call1 ok_L_heldInt64S (mkd_int (lowR a b c bs wide).1.length 1, _) [] (hpre := by (try dsimp only); exact ⟨by rw [mkd_int_len]; omega, by omega, by rw [mkd_int_len]; omega⟩)) (hst := by simp +decide (disch := omega) only [nrm, lk_nrm, dc_nrm, mk_nrm, mf_nrm, ti_nrm, ls_nrm, mp_nrm, nb_nrm, hset, pick_and, pick_or, ↓reduceIte, Nat.reduceAdd, wI64, wI32, wI16, wI8, wU8, List.length_map, Int.toNat_natCast, heldR_int_mkd]; rfl)
                refine g1 ?_
                refine awp_seq ?_
                refine awp_seq ?_
                refine r1 T0_ok hP hm hN ?_
                refine g1 ?_
                refine g1 ?_
                refine awp_cond rfl (fun hc27 => ?_) (fun hc27 => ?_)
                · skip
                  exfalso; first | (simp [ask] at hc27; done) | (simp [ask] at hc27; omega)
                · skip
                  refine awp_skip ?_
                  refine awp_seq ?_
                  refine awp_seq ?_
                  refine r1 T0_ok hP hm hN ?_
                  refine g1 ?_
                  refine g1 ?_
                  refine g1 ?_
                  refine awp_cond rfl (fun hc28 => ?_) (fun hc28 => ?_)
                  · skip
                    exfalso; first | (simp [ask] at hc28; done) | (simp [ask] at hc28; omega)
                  · skip
                    refine awp_skip ?_
                    refine awp_seq ?_
                    refine r1 T0_ok hP hm hN ?_
                    refine g1 ?_
                    refine awp_ret ?_
                    refine fin_mk [] rfl rfl ?_ trivial (by decide)
                    rfl
end Go.Proofs.Ytlcacfjikebmgaa.Abs
