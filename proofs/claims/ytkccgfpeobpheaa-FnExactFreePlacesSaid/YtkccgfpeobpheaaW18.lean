import Derived.Test.YtkccgfpeobpheaaW17
set_option linter.unusedVariables false
set_option linter.unusedSimpArgs false
namespace Go.Proofs.Ytkccgfpeobpheaa.Abs
open Go Go.RowKit
noncomputable abbrev s_I_Rack_row : Spec ((Int × List Pl) × Bool) where
  args := fun x => [rackD x.1, .val (.bool x.2)]
  pre := fun x => (∀ b ∈ x.1.2, isPl b) ∧ x.1.2.length ≤ 1048576
  res := fun x => .tup [.val (.int .i64 (longR (validR x.1.1 x.1.2) (rowF (tkI x.1.1 x.1.2) (x.2) x.1.1.toNat)).1), .val (.int .i64 (longR (validR x.1.1 x.1.2) (rowF (tkI x.1.1 x.1.2) (x.2) x.1.1.toNat)).2.1), .val (.int .i64 (longR (validR x.1.1 x.1.2) (rowF (tkI x.1.1 x.1.2) (x.2) x.1.1.toNat)).2.2)]

set_option maxRecDepth 20000 in
set_option maxHeartbeats 1000000 in
theorem ok_I_Rack_row : FnOk Pr 49 s_I_Rack_row := by
  refine fn_ok 2 0 T0_ok Go.Proofs.Try.func49 rfl (enters_of Go.Proofs.Try.func49 rfl rfl) (fun _ => rfl) (fun _ => rfl) (fun _ => rfl) ?_
  rintro ⟨⟨p, xs⟩, is⟩ ⟨hv, hl⟩ C hP hN hm hG
  change awp C _ _ ⟨[(0, .agg [.val (.int .i16 p), .sl 9 (pls xs)]), (1, .val (.bool is))], [], 0⟩
  simp only at hv hl
  refine awp_seq ?_
  refine r1 T0_ok hP hm hN ?_
  refine g1 ?_
  refine g1 ?_
  refine g1 ?_
  refine g1 ?_
  refine awp_seq ?_
  refine awp_seq ?_
  refine r1 T0_ok hP hm hN ?_
  refine g1 ?_
  refine gc1 ?_ (call1 ok_I_ValidRack (_, _) [] (hpre := by (try dsimp only); exact ⟨hv, hl⟩))
  refine g1 ?_
  refine awp_cond rfl (fun hc0 => ?_) (fun hc0 => ?_)
  · skip
    refine awp_seq ?_
    refine r1 T0_ok hP hm hN ?_
    refine g1 ?_
    refine g1 ?_
    refine g1 ?_
    refine awp_ret ?_
    refine fin_mk [] rfl rfl ?_ trivial (by decide)
    show D.tup [.val (.int .i64 (longR (validR p xs) (rowF (tkI p xs) is p.toNat)).1), .val (.int .i64 (longR (validR p xs) (rowF (tkI p xs) is p.toNat)).2.1), .val (.int .i64 (longR (validR p xs) (rowF (tkI p xs) is p.toNat)).2.2)] = _
    rw [longR, if_pos hc0]
    rfl
  · skip
    have hok : validR p xs = true := by simpa using hc0
    obtain ⟨hpp2, ha⟩ := validR_ats hok
    refine awp_skip ?_
    refine awp_seq ?_
    refine r1 T0_ok hP hm hN ?_
    refine g1 ?_
    refine g1 ?_
    refine gc1 ?_ (call1 ok_I_Rack_longest ((_, _), _) [] (hpre := by (try dsimp only); exact ⟨hl, hpp2, ha⟩))
    refine g1 ?_
    refine g1 ?_
    refine g1 ?_
    refine g1 ?_
    refine g1 ?_
    refine awp_seq ?_
    refine awp_seq ?_
    refine r1 T0_ok hP hm hN ?_
    refine g1 ?_
    refine g1 ?_
    refine awp_cond rfl (fun hc1 => ?_) (fun hc1 => ?_)
    · skip
      refine awp_seq ?_
      refine r1 T0_ok hP hm hN ?_
      refine g1 ?_
      refine g1 ?_
      refine g1 ?_
      refine awp_ret ?_
      refine fin_mk [] rfl rfl ?_ trivial (by decide)
      show D.tup [.val (.int .i64 (longR (validR p xs) (rowF (tkI p xs) is p.toNat)).1), .val (.int .i64 (longR (validR p xs) (rowF (tkI p xs) is p.toNat)).2.1), .val (.int .i64 (longR (validR p xs) (rowF (tkI p xs) is p.toNat)).2.2)] = _
      rw [longR, if_neg (by rw [hc0]; simp), if_pos hc1]
      rfl
    · skip
      refine awp_skip ?_
      refine awp_seq ?_
      refine r1 T0_ok hP hm hN ?_
      refine g1 ?_
      refine g1 ?_
      refine g1 ?_
      refine g1 ?_
      refine g1 ?_
      refine awp_ret ?_
      refine fin_mk [] rfl rfl ?_ trivial (by decide)
      show D.tup [.val (.int .i64 (longR (validR p xs) (rowF (tkI p xs) is p.toNat)).1), .val (.int .i64 (longR (validR p xs) (rowF (tkI p xs) is p.toNat)).2.1), .val (.int .i64 (longR (validR p xs) (rowF (tkI p xs) is p.toNat)).2.2)] = _
      rw [longR, if_neg (by rw [hc0]; simp), if_neg (by rw [hc1]; simp)]
      rfl

noncomputable abbrev s_S_CrowdOf : Spec (Int × List Pl) where
  args := fun x => [rackD x]
  pre := fun x => (isI16 x.1 ∧ ∀ b ∈ x.2, isPl b) ∧ x.2.length ≤ 1048576
  res := fun x => .tup [.val (.int .i64 (longR (okR x.1 x.2) (rowF (tkS x.2) (true) x.1.toNat)).1), .val (.int .i64 (longR (okR x.1 x.2) (rowF (tkS x.2) (true) x.1.toNat)).2.1), .val (.int .i64 (longR (okR x.1 x.2) (rowF (tkS x.2) (true) x.1.toNat)).2.2)]

set_option maxRecDepth 20000 in
set_option maxHeartbeats 1000000 in
theorem ok_S_CrowdOf : FnOk Pr 15 s_S_CrowdOf := by
  refine fn_ok 1 0 T0_ok Go.Proofs.Try.func15 rfl (enters_of Go.Proofs.Try.func15 rfl rfl) (fun _ => rfl) (fun _ => rfl) (fun _ => rfl) ?_
  rintro ⟨p, xs⟩ ⟨⟨hpp, hv⟩, hl⟩ C hP hN hm hG
  change awp C _ _ ⟨[(0, .agg [.val (.int .i16 p), .sl 9 (pls xs)])], [], 0⟩
  simp only at hv hl
  refine awp_seq ?_
  refine r1 T0_ok hP hm hN ?_
  refine g1 ?_
  refine g1 ?_
  refine g1 ?_
  refine g1 ?_
  refine awp_seq ?_
  refine awp_seq ?_
  refine r1 T0_ok hP hm hN ?_
  refine gc1 ?_ (call1 ok_S_l05Ok (_, _) [] (hpre := by (try dsimp only); exact ⟨⟨hpp, hv⟩, hl⟩))
  refine g1 ?_
  refine awp_cond rfl (fun hc0 => ?_) (fun hc0 => ?_)
  · skip
    refine awp_seq ?_
    refine r1 T0_ok hP hm hN ?_
    refine g1 ?_
    refine g1 ?_
    refine g1 ?_
    refine awp_ret ?_
    refine fin_mk [] rfl rfl ?_ trivial (by decide)
    show D.tup [.val (.int .i64 (longR (okR p xs) (rowF (tkS xs) true p.toNat)).1), .val (.int .i64 (longR (okR p xs) (rowF (tkS xs) true p.toNat)).2.1), .val (.int .i64 (longR (okR p xs) (rowF (tkS xs) true p.toNat)).2.2)] = _
    rw [longR, if_pos hc0]
    rfl
  · skip
    have hok : validR p xs = true := by rw [← okR_validR]; simpa using hc0
    obtain ⟨hpp2, ha⟩ := validR_ats hok
    refine awp_skip ?_
    refine awp_seq ?_
    refine r1 T0_ok hP hm hN ?_
    refine gc1 ?_ (call1 ok_S_l05Row ((_, _), _) [] (hpre := by (try dsimp only); exact ⟨hl, hpp2, ha⟩))
    refine g1 ?_
    refine g1 ?_
    refine g1 ?_
    refine g1 ?_
    refine g1 ?_
    refine awp_seq ?_
    refine awp_seq ?_
    refine r1 T0_ok hP hm hN ?_
    refine g1 ?_
    refine g1 ?_
    refine awp_cond rfl (fun hc1 => ?_) (fun hc1 => ?_)
    · skip
      refine awp_seq ?_
      refine r1 T0_ok hP hm hN ?_
      refine g1 ?_
      refine g1 ?_
      refine g1 ?_
      refine awp_ret ?_
      refine fin_mk [] rfl rfl ?_ trivial (by decide)
      show D.tup [.val (.int .i64 (longR (okR p xs) (rowF (tkS xs) true p.toNat)).1), .val (.int .i64 (longR (okR p xs) (rowF (tkS xs) true p.toNat)).2.1), .val (.int .i64 (longR (okR p xs) (rowF (tkS xs) true p.toNat)).2.2)] = _
      rw [longR, if_neg (by rw [hc0]; simp), if_pos hc1]
      rfl
    · skip
      refine awp_skip ?_
      refine awp_seq ?_
      refine r1 T0_ok hP hm hN ?_
      refine g1 ?_
      refine g1 ?_
      refine g1 ?_
      refine g1 ?_
      refine g1 ?_
      refine awp_ret ?_
      refine fin_mk [] rfl rfl ?_ trivial (by decide)
      show D.tup [.val (.int .i64 (longR (okR p xs) (rowF (tkS xs) true p.toNat)).1), .val (.int .i64 (longR (okR p xs) (rowF (tkS xs) true p.toNat)).2.1), .val (.int .i64 (longR (okR p xs) (rowF (tkS xs) true p.toNat)).2.2)] = _
      rw [longR, if_neg (by rw [hc0]; simp), if_neg (by rw [hc1]; simp)]
      rfl

noncomputable abbrev s_I_CrowdOf : Spec (Int × List Pl) where
  args := fun x => [rackD x]
  pre := fun x => (∀ b ∈ x.2, isPl b) ∧ x.2.length ≤ 1048576
  res := fun x => .tup [.val (.int .i64 (longR (validR x.1 x.2) (rowF (tkI x.1 x.2) (true) x.1.toNat)).1), .val (.int .i64 (longR (validR x.1 x.2) (rowF (tkI x.1 x.2) (true) x.1.toNat)).2.1), .val (.int .i64 (longR (validR x.1 x.2) (rowF (tkI x.1 x.2) (true) x.1.toNat)).2.2)]

set_option maxRecDepth 20000 in
set_option maxHeartbeats 1000000 in
theorem ok_I_CrowdOf : FnOk Pr 16 s_I_CrowdOf := by
  refine fn_ok 1 0 T0_ok Go.Proofs.Try.func16 rfl (enters_of Go.Proofs.Try.func16 rfl rfl) (fun _ => rfl) (fun _ => rfl) (fun _ => rfl) ?_
  rintro ⟨p, xs⟩ ⟨hv, hl⟩ C hP hN hm hG
  change awp C _ _ ⟨[(0, .agg [.val (.int .i16 p), .sl 9 (pls xs)])], [], 0⟩
  simp only at hv hl
  refine awp_seq ?_
  refine r1 T0_ok hP hm hN ?_
  refine g1 ?_
  refine g1 ?_
  refine g1 ?_
  refine g1 ?_
  refine awp_seq ?_
  refine r1 T0_ok hP hm hN ?_
  refine g1 ?_
  refine gc1 ?_ (call1 ok_I_Rack_row ((_, _), _) [] (hpre := by (try dsimp only); exact ⟨hv, hl⟩))
  refine g1 ?_
  refine g1 ?_
  refine g1 ?_
  refine g1 ?_
  refine g1 ?_
  refine g1 ?_
  refine awp_ret ?_
  refine fin_mk [] rfl rfl ?_ trivial (by decide)
  rfl

noncomputable abbrev s_L_FnExactCrowdOf : Spec ((Int × List Pl)) where
  args := fun x => [.agg [.val (.int .i16 x.1), .sl 9 (pls x.2)]]
  pre := fun x => (isI16 x.1 ∧ (∀ b ∈ x.2, isPl b) ∧ x.2.length ≤ 9223372036854775807)
  res := fun x => .val (.bool true)

set_option maxRecDepth 20000 in
set_option maxHeartbeats 4000000 in
theorem ok_L_FnExactCrowdOf : FnOk Pr 4 s_L_FnExactCrowdOf := by
  refine fn_ok 1 0 T0_ok Go.Proofs.Try.func4 rfl (enters_of Go.Proofs.Try.func4 rfl rfl) (fun _ => rfl) (fun _ => rfl) (fun _ => rfl) ?_
  rintro ⟨p, xs⟩ ⟨hpp, hv, hl0⟩ C hP hN hm hG
  change awp C _ _ ⟨[(0, .agg [.val (.int .i16 p), .sl 9 (pls xs)])], [], 0⟩
  simp only at hv hl0
  refine awp_seq ?_
  refine r1 T0_ok hP hm hN ?_
  refine g1 ?_
  refine g1 ?_
  refine awp_seq ?_
  refine r1 T0_ok hP hm hN ?_
  refine g1 ?_
  refine awp_seq ?_
  refine r1 T0_ok hP hm hN ?_
  refine g1 ?_
  refine g1 ?_
  refine gc1 ?_ (call1 ok_L_szRack ((_, _), _) [] (hpre := by (try dsimp only); exact ⟨hl0, by omega, by omega⟩))
  refine g1 ?_
  refine awp_seq ?_
  refine awp_seq ?_
  refine r1 T0_ok hP hm hN ?_
  refine g1 ?_
  refine g1 ?_
  refine awp_cond rfl (fun hc0 => ?_) (fun hc0 => ?_)
  · skip
    refine awp_seq ?_
    refine r1 T0_ok hP hm hN ?_
    refine g1 ?_
    refine awp_ret ?_
    refine fin_mk [] rfl rfl ?_ trivial (by decide)
    rfl
  · skip
    have hl : xs.length ≤ 1048576 := by simp only [decide_eq_false_iff_not] at hc0; split at hc0 <;> omega
    refine awp_skip ?_
    refine awp_seq ?_
    refine r1 T0_ok hP hm hN ?_
    refine g1 ?_
    refine gc1 ?_ (call1 ok_L_toRack (_, _) [] (hpre := by (try dsimp only); exact hl))
    refine gc1 ?_ (call1 ok_S_CrowdOf (_, _) [] (hpre := by (try dsimp only); exact ⟨⟨hpp, hv⟩, hl⟩))
    refine g1 ?_
    refine g1 ?_
    refine g1 ?_
    refine g1 ?_
    refine g1 ?_
    refine g1 ?_
    refine g1 ?_
    refine awp_seq ?_
    refine r1 T0_ok hP hm hN ?_
    refine g1 ?_
    refine gc1 ?_ (call1 ok_L_toRack (_, _) [] (hpre := by (try dsimp only); exact hl))
    refine g1 ?_
    refine g1 ?_
    refine awp_seq ?_
    refine r1 T0_ok hP hm hN ?_
    refine g1 ?_
    refine gc1 ?_ (call1 ok_I_CrowdOf (_, _) [] (hpre := by (try dsimp only); exact ⟨hv, hl⟩))
    refine g1 ?_
    refine g1 ?_
    refine g1 ?_
    refine g1 ?_
    refine g1 ?_
    refine g1 ?_
    refine g1 ?_
    refine awp_seq ?_
    refine awp_seq ?_
    refine r1 T0_ok hP hm hN ?_
    refine g1 ?_
    refine g1 ?_
    refine g1 ?_
    refine g1 ?_
    refine gg1 ?_
    refine gg1 ?_
    refine gg1 ?_
    refine g1 ?_
    refine g1 ?_
    refine gg1 ?_
    refine gg1 ?_
    refine gg1 ?_
    refine g1 ?_
    refine awp_cond rfl (fun hc1 => ?_) (fun hc1 => ?_)
    · skip
      exfalso; rw [long_same] at hc1; simp at hc1
    · skip
      refine awp_skip ?_
      refine awp_seq ?_
      refine awp_seq ?_
      refine awp_draw T0_ok hP hm hN Pr_mix [0, 1, 2, 3, 4, 5, 6, 7, 8, 9, 10, 11] [2, 3] _ rfl (by rfl) ?_
      refine d1 T0_ok ?_
      refine d1 T0_ok ?_
      refine dp1 ?_ (call1 ok_L_toRack (_, _) [] (hpre := by (try dsimp only); exact hl))
      refine dp1 ?_ (call1 ok_L_eqRack ((_, _), (_, _)) [] (hpre := by (try dsimp only); exact ⟨by omega, by omega⟩))
      refine d1 T0_ok ?_
      refine dreg_nil ?_
      refine awp_cond rfl (fun hc2 => ?_) (fun hc2 => ?_)
      · skip
        exfalso; simp [ask] at hc2
      · skip
        refine awp_skip ?_
        refine awp_seq ?_
        refine r1 T0_ok hP hm hN ?_
        refine g1 ?_
        refine awp_ret ?_
        refine fin_mk [] rfl rfl ?_ trivial (by decide)
        rfl

noncomputable abbrev s_S_WidestGap : Spec (Int × List Pl) where
  args := fun x => [rackD x]
  pre := fun x => (isI16 x.1 ∧ ∀ b ∈ x.2, isPl b) ∧ x.2.length ≤ 1048576
  res := fun x => .tup [.val (.int .i64 (longR (okR x.1 x.2) (rowF (tkS x.2) (false) x.1.toNat)).1), .val (.int .i64 (longR (okR x.1 x.2) (rowF (tkS x.2) (false) x.1.toNat)).2.1), .val (.int .i64 (longR (okR x.1 x.2) (rowF (tkS x.2) (false) x.1.toNat)).2.2)]

set_option maxRecDepth 20000 in
set_option maxHeartbeats 1000000 in
theorem ok_S_WidestGap : FnOk Pr 17 s_S_WidestGap := by
  refine fn_ok 1 0 T0_ok Go.Proofs.Try.func17 rfl (enters_of Go.Proofs.Try.func17 rfl rfl) (fun _ => rfl) (fun _ => rfl) (fun _ => rfl) ?_
  rintro ⟨p, xs⟩ ⟨⟨hpp, hv⟩, hl⟩ C hP hN hm hG
  change awp C _ _ ⟨[(0, .agg [.val (.int .i16 p), .sl 9 (pls xs)])], [], 0⟩
  simp only at hv hl
  refine awp_seq ?_
  refine r1 T0_ok hP hm hN ?_
  refine g1 ?_
  refine g1 ?_
  refine g1 ?_
  refine g1 ?_
  refine awp_seq ?_
  refine awp_seq ?_
  refine r1 T0_ok hP hm hN ?_
  refine gc1 ?_ (call1 ok_S_l05Ok (_, _) [] (hpre := by (try dsimp only); exact ⟨⟨hpp, hv⟩, hl⟩))
  refine g1 ?_
  refine awp_cond rfl (fun hc0 => ?_) (fun hc0 => ?_)
  · skip
    refine awp_seq ?_
    refine r1 T0_ok hP hm hN ?_
    refine g1 ?_
    refine g1 ?_
    refine g1 ?_
    refine awp_ret ?_
    refine fin_mk [] rfl rfl ?_ trivial (by decide)
    show D.tup [.val (.int .i64 (longR (okR p xs) (rowF (tkS xs) false p.toNat)).1), .val (.int .i64 (longR (okR p xs) (rowF (tkS xs) false p.toNat)).2.1), .val (.int .i64 (longR (okR p xs) (rowF (tkS xs) false p.toNat)).2.2)] = _
    rw [longR, if_pos hc0]
    rfl
  · skip
    have hok : validR p xs = true := by rw [← okR_validR]; simpa using hc0
    obtain ⟨hpp2, ha⟩ := validR_ats hok
    refine awp_skip ?_
    refine awp_seq ?_
    refine r1 T0_ok hP hm hN ?_
    refine gc1 ?_ (call1 ok_S_l05Row ((_, _), _) [] (hpre := by (try dsimp only); exact ⟨hl, hpp2, ha⟩))
    refine g1 ?_
    refine g1 ?_
    refine g1 ?_
    refine g1 ?_
    refine g1 ?_
    refine awp_seq ?_
    refine awp_seq ?_
    refine r1 T0_ok hP hm hN ?_
    refine g1 ?_
    refine g1 ?_
    refine awp_cond rfl (fun hc1 => ?_) (fun hc1 => ?_)
    · skip
      refine awp_seq ?_
      refine r1 T0_ok hP hm hN ?_
      refine g1 ?_
      refine g1 ?_
      refine g1 ?_
      refine awp_ret ?_
      refine fin_mk [] rfl rfl ?_ trivial (by decide)
      show D.tup [.val (.int .i64 (longR (okR p xs) (rowF (tkS xs) false p.toNat)).1), .val (.int .i64 (longR (okR p xs) (rowF (tkS xs) false p.toNat)).2.1), .val (.int .i64 (longR (okR p xs) (rowF (tkS xs) false p.toNat)).2.2)] = _
      rw [longR, if_neg (by rw [hc0]; simp), if_pos hc1]
      rfl
    · skip
      refine awp_skip ?_
      refine awp_seq ?_
      refine r1 T0_ok hP hm hN ?_
      refine g1 ?_
      refine g1 ?_
      refine g1 ?_
      refine g1 ?_
      refine g1 ?_
      refine awp_ret ?_
      refine fin_mk [] rfl rfl ?_ trivial (by decide)
      show D.tup [.val (.int .i64 (longR (okR p xs) (rowF (tkS xs) false p.toNat)).1), .val (.int .i64 (longR (okR p xs) (rowF (tkS xs) false p.toNat)).2.1), .val (.int .i64 (longR (okR p xs) (rowF (tkS xs) false p.toNat)).2.2)] = _
      rw [longR, if_neg (by rw [hc0]; simp), if_neg (by rw [hc1]; simp)]
      rfl

noncomputable abbrev s_I_WidestGap : Spec (Int × List Pl) where
  args := fun x => [rackD x]
  pre := fun x => (∀ b ∈ x.2, isPl b) ∧ x.2.length ≤ 1048576
  res := fun x => .tup [.val (.int .i64 (longR (validR x.1 x.2) (rowF (tkI x.1 x.2) (false) x.1.toNat)).1), .val (.int .i64 (longR (validR x.1 x.2) (rowF (tkI x.1 x.2) (false) x.1.toNat)).2.1), .val (.int .i64 (longR (validR x.1 x.2) (rowF (tkI x.1 x.2) (false) x.1.toNat)).2.2)]

set_option maxRecDepth 20000 in
set_option maxHeartbeats 1000000 in
theorem ok_I_WidestGap : FnOk Pr 18 s_I_WidestGap := by
  refine fn_ok 1 0 T0_ok Go.Proofs.Try.func18 rfl (enters_of Go.Proofs.Try.func18 rfl rfl) (fun _ => rfl) (fun _ => rfl) (fun _ => rfl) ?_
  rintro ⟨p, xs⟩ ⟨hv, hl⟩ C hP hN hm hG
  change awp C _ _ ⟨[(0, .agg [.val (.int .i16 p), .sl 9 (pls xs)])], [], 0⟩
  simp only at hv hl
  refine awp_seq ?_
  refine r1 T0_ok hP hm hN ?_
  refine g1 ?_
  refine g1 ?_
  refine g1 ?_
  refine g1 ?_
  refine awp_seq ?_
  refine r1 T0_ok hP hm hN ?_
  refine g1 ?_
  refine gc1 ?_ (call1 ok_I_Rack_row ((_, _), _) [] (hpre := by (try dsimp only); exact ⟨hv, hl⟩))
  refine g1 ?_
  refine g1 ?_
  refine g1 ?_
  refine g1 ?_
  refine g1 ?_
  refine g1 ?_
  refine awp_ret ?_
  refine fin_mk [] rfl rfl ?_ trivial (by decide)
  rfl

noncomputable abbrev s_L_FnExactWidestGap : Spec ((Int × List Pl)) where
  args := fun x => [.agg [.val (.int .i16 x.1), .sl 9 (pls x.2)]]
  pre := fun x => (isI16 x.1 ∧ (∀ b ∈ x.2, isPl b) ∧ x.2.length ≤ 9223372036854775807)
  res := fun x => .val (.bool true)

set_option maxRecDepth 20000 in
set_option maxHeartbeats 4000000 in
theorem ok_L_FnExactWidestGap : FnOk Pr 5 s_L_FnExactWidestGap := by
  refine fn_ok 1 0 T0_ok Go.Proofs.Try.func5 rfl (enters_of Go.Proofs.Try.func5 rfl rfl) (fun _ => rfl) (fun _ => rfl) (fun _ => rfl) ?_
  rintro ⟨p, xs⟩ ⟨hpp, hv, hl0⟩ C hP hN hm hG
  change awp C _ _ ⟨[(0, .agg [.val (.int .i16 p), .sl 9 (pls xs)])], [], 0⟩
  simp only at hv hl0
  refine awp_seq ?_
  refine r1 T0_ok hP hm hN ?_
  refine g1 ?_
  refine g1 ?_
  refine awp_seq ?_
  refine r1 T0_ok hP hm hN ?_
  refine g1 ?_
  refine awp_seq ?_
  refine r1 T0_ok hP hm hN ?_
  refine g1 ?_
  refine g1 ?_
  refine gc1 ?_ (call1 ok_L_szRack ((_, _), _) [] (hpre := by (try dsimp only); exact ⟨hl0, by omega, by omega⟩))
  refine g1 ?_
  refine awp_seq ?_
  refine awp_seq ?_
  refine r1 T0_ok hP hm hN ?_
  refine g1 ?_
  refine g1 ?_
  refine awp_cond rfl (fun hc0 => ?_) (fun hc0 => ?_)
  · skip
    refine awp_seq ?_
    refine r1 T0_ok hP hm hN ?_
    refine g1 ?_
    refine awp_ret ?_
    refine fin_mk [] rfl rfl ?_ trivial (by decide)
    rfl
  · skip
    have hl : xs.length ≤ 1048576 := by simp only [decide_eq_false_iff_not] at hc0; split at hc0 <;> omega
    refine awp_skip ?_
    refine awp_seq ?_
    refine r1 T0_ok hP hm hN ?_
    refine g1 ?_
    refine gc1 ?_ (call1 ok_L_toRack (_, _) [] (hpre := by (try dsimp only); exact hl))
    refine gc1 ?_ (call1 ok_S_WidestGap (_, _) [] (hpre := by (try dsimp only); exact ⟨⟨hpp, hv⟩, hl⟩))
    refine g1 ?_
    refine g1 ?_
    refine g1 ?_
    refine g1 ?_
    refine g1 ?_
    refine g1 ?_
    refine g1 ?_
    refine awp_seq ?_
    refine r1 T0_ok hP hm hN ?_
    refine g1 ?_
    refine gc1 ?_ (call1 ok_L_toRack (_, _) [] (hpre := by (try dsimp only); exact hl))
    refine g1 ?_
    refine g1 ?_
    refine awp_seq ?_
    refine r1 T0_ok hP hm hN ?_
    refine g1 ?_
    refine gc1 ?_ (call1 ok_I_WidestGap (_, _) [] (hpre := by (try dsimp only); exact ⟨hv, hl⟩))
    refine g1 ?_
    refine g1 ?_
    refine g1 ?_
    refine g1 ?_
    refine g1 ?_
    refine g1 ?_
    refine g1 ?_
    refine awp_seq ?_
    refine awp_seq ?_
    refine r1 T0_ok hP hm hN ?_
    refine g1 ?_
    refine g1 ?_
    refine g1 ?_
    refine g1 ?_
    refine gg1 ?_
    refine gg1 ?_
    refine gg1 ?_
    refine g1 ?_
    refine g1 ?_
    refine gg1 ?_
    refine gg1 ?_
    refine gg1 ?_
    refine g1 ?_
    refine awp_cond rfl (fun hc1 => ?_) (fun hc1 => ?_)
    · skip
      exfalso; rw [long_same] at hc1; simp at hc1
    · skip
      refine awp_skip ?_
      refine awp_seq ?_
      refine awp_seq ?_
      refine awp_draw T0_ok hP hm hN Pr_mix [0, 1, 2, 3, 4, 5, 6, 7, 8, 9, 10, 11] [2, 3] _ rfl (by rfl) ?_
      refine d1 T0_ok ?_
      refine d1 T0_ok ?_
      refine dp1 ?_ (call1 ok_L_toRack (_, _) [] (hpre := by (try dsimp only); exact hl))
      refine dp1 ?_ (call1 ok_L_eqRack ((_, _), (_, _)) [] (hpre := by (try dsimp only); exact ⟨by omega, by omega⟩))
      refine d1 T0_ok ?_
      refine dreg_nil ?_
      refine awp_cond rfl (fun hc2 => ?_) (fun hc2 => ?_)
      · skip
        exfalso; simp [ask] at hc2
      · skip
        refine awp_skip ?_
        refine awp_seq ?_
        refine r1 T0_ok hP hm hN ?_
        refine g1 ?_
        refine awp_ret ?_
        refine fin_mk [] rfl rfl ?_ trivial (by decide)
        rfl
end Go.Proofs.Ytkccgfpeobpheaa.Abs
