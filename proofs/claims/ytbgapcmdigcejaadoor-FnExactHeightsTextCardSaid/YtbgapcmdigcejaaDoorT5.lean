import Derived.Test.YtbgapcmdigcejaaDoorT4
set_option linter.unusedVariables false
set_option linter.unusedSimpArgs false
namespace Go.Proofs.YtbgapcmdigcejaaDoor.Abs
open Go Go.RowKit
noncomputable abbrev s_L_FnExactHeightsText : Spec ((Int × Int × Int) × List Int) where
  args := fun x => [pegs x.1, .sl 1 (i64s x.2)]
  pre := fun x => isPegs x.1 ∧ (I64s x.2 ∧ x.2.length ≤ 9223372036854775807)
  res := fun x => .val (.bool true)

set_option maxRecDepth 20000 in
set_option maxHeartbeats 1000000 in
theorem ok_L_FnExactHeightsText : FnOk Pr 4 s_L_FnExactHeightsText := by
  refine fn_ok 2 0 T0_ok Go.Proofs.Tryd.func4 rfl (enters_of Go.Proofs.Tryd.func4 rfl rfl) (fun _ => rfl) (fun _ => rfl) (fun _ => rfl) ?_
  rintro ⟨⟨a, b, c⟩, xs⟩ ⟨hp, hl⟩ C hP hN hm hG
  change awp C _ _ ⟨[(0, .val (.agg #[.int .i16 a, .int .i16 b, .int .i16 c])), (1, .sl 1 (i64s xs))], [], 0⟩
  have hl := hl.2
  refine awp_seq ?_
  refine r1 T0_ok hP hm hN ?_
  refine g1 ?_
  refine g1 ?_
  refine awp_seq ?_
  refine awp_seq ?_
  refine r1 T0_ok hP hm hN ?_
  refine g1 ?_
  refine g1 ?_
  refine g1 ?_
  refine awp_cond rfl (fun hc0 => ?_) (fun hc0 => ?_)
  · skip
    refine awp_seq ?_
    refine r1 T0_ok hP hm hN ?_
    refine g1 ?_
    refine awp_ret ?_
    refine fin_mk [] rfl rfl ?_ trivial (by decide)
    rfl
  · skip
    have hl2 : xs.length ≤ 1048576 := by simp at hc0; omega
    refine awp_skip ?_
    refine awp_seq ?_
    refine r1 T0_ok hP hm hN ?_
    refine g1 ?_
    refine gc1 ?_ (call1 ok_L_toPegs (_, _, _) [] (hpre := by (try dsimp only); first | trivial | exact ⟨ha, hb, hc⟩ | exact hp | assumption))
    refine g1 ?_
    refine gc1 ?_ (call1 ok_L_toInt64S _ [] (hpre := by (try dsimp only); exact hl2))
    refine gc1 ?_ (call1 ok_S_HeightsText ((_, _, _), _) [] (hpre := by (try dsimp only); exact ⟨hp, hl2⟩))
    refine g1 ?_
    refine awp_seq ?_
    refine r1 T0_ok hP hm hN ?_
    refine g1 ?_
    refine gc1 ?_ (call1 ok_L_toInt64S _ [] (hpre := by (try dsimp only); exact hl2))
    refine g1 ?_
    refine awp_seq ?_
    refine r1 T0_ok hP hm hN ?_
    refine g1 ?_
    refine gc1 ?_ (call1 ok_L_toPegs (_, _, _) [] (hpre := by (try dsimp only); first | trivial | exact ⟨ha, hb, hc⟩ | exact hp | assumption))
    refine g1 ?_
    refine gc1 ?_ (call1 ok_I_HeightsText ((_, _, _), _) [] (hpre := by (try dsimp only); exact ⟨hp, hl2⟩))
    refine g1 ?_
    refine awp_seq ?_
    refine awp_seq ?_
    refine r1 T0_ok hP hm hN ?_
    refine g1 ?_
    refine g1 ?_
    refine g1 ?_
    refine awp_cond rfl (fun hc1 => ?_) (fun hc1 => ?_)
    · skip
      exfalso; rw [okH_validH] at hc1; simp at hc1
    · skip
      refine awp_skip ?_
      refine awp_seq ?_
      refine awp_seq ?_
      refine r1 T0_ok hP hm hN ?_
      refine g1 ?_
      refine g1 ?_
      refine gc1 ?_ (call1 ok_L_toInt64S _ [] (hpre := by (try dsimp only); exact hl2))
      refine gc1 ?_ (call1 ok_L_eqInt64S (_, _) [])
      refine g1 ?_
      refine awp_cond rfl (fun hc2 => ?_) (fun hc2 => ?_)
      · skip
        exfalso; simp [ask] at hc2
      · skip
        refine awp_skip ?_
        refine awp_seq ?_
        refine r1 T0_ok hP hm hN ?_
        refine g1 ?_
        refine awp_ret ?_
        refine fin_mk [] rfl rfl ?_ trivial (by decide)
        rfl
end Go.Proofs.YtbgapcmdigcejaaDoor.Abs
