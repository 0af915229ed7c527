import Derived.Test.YtihgdjflacccmaaV2
set_option linter.unusedVariables false
set_option linter.unusedSimpArgs false
namespace Go.Proofs.Ytihgdjflacccmaa.Abs
open Go Go.RowKit
def emptyR (n : Int) : Int × Int := if !inI n 1 60 then (0, 2) else (n, 0)
theorem heldR_nil (k : Int) : heldR_placed [] k = k := by rw [heldR_placed_yes (fun i hi => by simp at hi)]; simp
theorem heldR_cases (xs : List Pl) {k : Int} (hk : 0 ≤ k) : heldR_placed xs k = -1 ∨ 0 ≤ heldR_placed xs k := by
  unfold heldR_placed
  split
  · right; omega
  · exact .inl rfl

noncomputable abbrev s_L_heldRack : Spec ((Int × List Pl) × Int) where
  args := fun x => [rackD x.1, .val (.int .i64 x.2)]
  pre := fun x => x.1.2.length ≤ 4611686018427387904 ∧ 0 ≤ x.2 ∧ x.2 + 9 * x.1.2.length ≤ 4611686018427387904
  res := fun x => .val (.int .i64 (heldR_placed x.1.2 x.2))

set_option maxRecDepth 20000 in
set_option maxHeartbeats 1000000 in
theorem ok_L_heldRack : FnOk Pr 28 s_L_heldRack := by
  refine fn_ok 2 0 T0_ok Go.Proofs.Try.func28 rfl (enters_of Go.Proofs.Try.func28 rfl rfl) (fun _ => rfl) (fun _ => rfl) (fun _ => rfl) ?_
  rintro ⟨⟨p, xs⟩, k⟩ ⟨hl, hk0, hk⟩ C hP hN hm hG
  change awp C _ _ ⟨[(0, .agg [.val (.int .i16 p), .sl 9 (pls xs)]), (1, .val (.int .i64 k))], [], 0⟩
  simp only at hl hk0 hk
  have hcs := heldR_cases xs hk0
  refine awp_seq ?_
  refine r1 T0_ok hP hm hN ?_
  refine g1 ?_
  refine g1 ?_
  refine awp_seq ?_
  refine r1 T0_ok hP hm hN ?_
  refine g1 ?_
  refine g1 ?_
  refine g1 ?_
  refine gc1 ?_ (call1 ok_L_heldPlacedS (_, _) [] (hpre := by (try dsimp only); exact ⟨hl, hk0, hk⟩))
  refine g1 ?_
  refine awp_seq ?_
  refine awp_seq ?_
  refine r1 T0_ok hP hm hN ?_
  refine g1 ?_
  refine g1 ?_
  refine awp_cond rfl (fun hc0 => ?_) (fun hc0 => ?_)
  · skip
    refine awp_seq ?_
    refine r1 T0_ok hP hm hN ?_
    refine g1 ?_
    refine awp_ret ?_
    refine fin_mk [] rfl rfl ?_ trivial (by decide)
    simp only [decide_eq_true_eq] at hc0
    show D.val (.int .i64 (heldR_placed xs k)) = D.val (.int .i64 (-1))
    rw [show heldR_placed xs k = -1 by omega]
  · skip
    refine awp_skip ?_
    refine awp_seq ?_
    refine r1 T0_ok hP hm hN ?_
    refine g1 ?_
    refine g1 ?_
    refine awp_ret ?_
    refine fin_mk [] rfl rfl ?_ trivial (by decide)
    rfl

noncomputable abbrev s_S_l05Places : Spec Int where
  args := fun n => [.val (.int .i64 n)]
  res := fun n => .val (.bool (inI n 1 60))

set_option maxRecDepth 20000 in
set_option maxHeartbeats 1000000 in
theorem ok_S_l05Places : FnOk Pr 48 s_S_l05Places := by
  refine fn_ok 1 0 T0_ok Go.Proofs.Try.func48 rfl (enters_of Go.Proofs.Try.func48 rfl rfl) (fun _ => rfl) (fun _ => rfl) (fun _ => rfl) ?_
  rintro n - C hP hN hm hG
  change awp C _ _ ⟨[(0, .val (.int .i64 n))], [], 0⟩
  refine awp_seq ?_
  refine r1 T0_ok hP hm hN ?_
  refine g1 ?_
  refine awp_seq ?_
  refine r1 T0_ok hP hm hN ?_
  refine g1 ?_
  refine gc1 ?_ (call1 ok_S_l00In (_, _, _) [])
  refine g1 ?_
  refine awp_ret ?_
  refine fin_mk [] rfl rfl ?_ trivial (by decide)
  rfl

noncomputable abbrev s_I_isPlaces : Spec Int where
  args := fun n => [.val (.int .i64 n)]
  res := fun n => .val (.bool (inI n 1 60))

set_option maxRecDepth 20000 in
set_option maxHeartbeats 1000000 in
theorem ok_I_isPlaces : FnOk Pr 49 s_I_isPlaces := by
  refine fn_ok 1 0 T0_ok Go.Proofs.Try.func49 rfl (enters_of Go.Proofs.Try.func49 rfl rfl) (fun _ => rfl) (fun _ => rfl) (fun _ => rfl) ?_
  rintro n - C hP hN hm hG
  change awp C _ _ ⟨[(0, .val (.int .i64 n))], [], 0⟩
  refine awp_seq ?_
  refine r1 T0_ok hP hm hN ?_
  refine g1 ?_
  refine awp_seq ?_
  refine r1 T0_ok hP hm hN ?_
  refine g1 ?_
  refine gc1 ?_ (call1 ok_I_within_int64 (_, _, _) [])
  refine g1 ?_
  refine awp_ret ?_
  refine fin_mk [] rfl rfl ?_ trivial (by decide)
  rfl

noncomputable abbrev s_S_EmptyRack : Spec Int where
  args := fun n => [.val (.int .i64 n)]
  res := fun n => .tup [.agg [.val (.int .i16 (emptyR n).1), .nil], .val (.int .i64 (emptyR n).2)]

set_option maxRecDepth 20000 in
set_option maxHeartbeats 1000000 in
theorem ok_S_EmptyRack : FnOk Pr 25 s_S_EmptyRack := by
  refine fn_ok 1 0 T0_ok Go.Proofs.Try.func25 rfl (enters_of Go.Proofs.Try.func25 rfl rfl) (fun _ => rfl) (fun _ => rfl) (fun _ => rfl) ?_
  rintro n - C hP hN hm hG
  change awp C _ _ ⟨[(0, .val (.int .i64 n))], [], 0⟩
  refine awp_seq ?_
  refine r1 T0_ok hP hm hN ?_
  refine g1 ?_
  refine g1 ?_
  refine awp_seq ?_
  refine awp_seq ?_
  refine r1 T0_ok hP hm hN ?_
  refine g1 ?_
  refine gc1 ?_ (call1 ok_S_l05Places _ [])
  refine g1 ?_
  refine awp_cond rfl (fun hc0 => ?_) (fun hc0 => ?_)
  · skip
    have hr : emptyR n = (0, 2) := by rw [emptyR, if_pos hc0]
    refine awp_seq ?_
    refine r1 T0_ok hP hm hN ?_
    refine g1 ?_
    refine g1 ?_
    refine g1 ?_
    refine awp_ret ?_
    refine fin_mk [] rfl rfl ?_ trivial (by decide)
    show D.tup [.agg [.val (.int .i16 (emptyR n).1), .nil], .val (.int .i64 (emptyR n).2)] = _
    rw [hr]
    rfl
  · skip
    have hr : emptyR n = (n, 0) := by rw [emptyR, if_neg (by rw [hc0]; simp)]
    have hin : 1 ≤ n ∧ n ≤ 60 := inI_iff.1 (by simpa using hc0)
    refine awp_skip ?_
    refine awp_seq ?_
    refine r1 T0_ok hP hm hN ?_
    refine g1 ?_
    refine g1 ?_
    refine g1 ?_
    refine g1 ?_
    refine g1 ?_
    refine awp_ret ?_
    refine fin_mk [] rfl rfl ?_ trivial (by decide)
    show D.tup [.agg [.val (.int .i16 (emptyR n).1), .nil], .val (.int .i64 (emptyR n).2)] = _
    rw [hr]
    rfl

noncomputable abbrev s_I_EmptyRack : Spec Int where
  args := fun n => [.val (.int .i64 n)]
  res := fun n => .tup [.agg [.val (.int .i16 (emptyR n).1), .nil], .val (.int .i64 (emptyR n).2)]

set_option maxRecDepth 20000 in
set_option maxHeartbeats 1000000 in
theorem ok_I_EmptyRack : FnOk Pr 26 s_I_EmptyRack := by
  refine fn_ok 1 0 T0_ok Go.Proofs.Try.func26 rfl (enters_of Go.Proofs.Try.func26 rfl rfl) (fun _ => rfl) (fun _ => rfl) (fun _ => rfl) ?_
  rintro n - C hP hN hm hG
  change awp C _ _ ⟨[(0, .val (.int .i64 n))], [], 0⟩
  refine awp_seq ?_
  refine r1 T0_ok hP hm hN ?_
  refine g1 ?_
  refine g1 ?_
  refine awp_seq ?_
  refine awp_seq ?_
  refine r1 T0_ok hP hm hN ?_
  refine g1 ?_
  refine gc1 ?_ (call1 ok_I_isPlaces _ [])
  refine g1 ?_
  refine awp_cond rfl (fun hc0 => ?_) (fun hc0 => ?_)
  · skip
    have hr : emptyR n = (0, 2) := by rw [emptyR, if_pos hc0]
    refine awp_seq ?_
    refine r1 T0_ok hP hm hN ?_
    refine g1 ?_
    refine g1 ?_
    refine g1 ?_
    refine awp_ret ?_
    refine fin_mk [] rfl rfl ?_ trivial (by decide)
    show D.tup [.agg [.val (.int .i16 (emptyR n).1), .nil], .val (.int .i64 (emptyR n).2)] = _
    rw [hr]
    rfl
  · skip
    have hr : emptyR n = (n, 0) := by rw [emptyR, if_neg (by rw [hc0]; simp)]
    have hin : 1 ≤ n ∧ n ≤ 60 := inI_iff.1 (by simpa using hc0)
    refine awp_skip ?_
    refine awp_seq ?_
    refine r1 T0_ok hP hm hN ?_
    refine g1 ?_
    refine g1 ?_
    refine g1 ?_
    refine g1 ?_
    refine g1 ?_
    refine awp_ret ?_
    refine fin_mk [] rfl rfl ?_ trivial (by decide)
    show D.tup [.agg [.val (.int .i16 (emptyR n).1), .nil], .val (.int .i64 (emptyR n).2)] = _
    rw [hr]
    rfl

noncomputable abbrev s_L_markPlacedS0 : Spec Int where
  args := fun k => [.nil, .val (.int .i64 k)]
  res := fun k => .val (.int .i64 k)

set_option maxRecDepth 20000 in
set_option maxHeartbeats 1000000 in
theorem ok_L_markPlacedS0 : FnOk Pr 50 s_L_markPlacedS0 := by
  refine fn_ok 2 0 T0_ok Go.Proofs.Try.func50 rfl (enters_of Go.Proofs.Try.func50 rfl rfl) (fun _ => rfl) (fun _ => rfl) (fun _ => rfl) ?_
  rintro k - C hP hN hm hG
  change awp C _ _ ⟨[(0, .nil), (1, .val (.int .i64 k))], [], 0⟩
  refine awp_seq ?_
  refine r1 T0_ok hP hm hN ?_
  refine g1 ?_
  refine awp_seq ?_
  refine awp_seq ?_
  refine r1 T0_ok hP hm hN ?_
  refine g1 ?_
  refine awp_block ?_
  refine awp_loop (fun n st => (n = 0 ∧ st = ⟨[(5, .val (.int .i64 0)), (0, .nil), (1, .val (.int .i64 k))], [], 0⟩)) 0 ⟨_, weak_sl (sub_cons rfl (sub_cons rfl (sub_cons rfl (sub_nil)))), ⟨rfl, rfl⟩⟩ ?_
  rintro n st (⟨rfl, rfl⟩)
  · skip
    refine awp_seq ?_
    refine awp_seq ?_
    refine r1 T0_ok hP hm hN ?_
    refine g1 ?_
    refine g1 ?_
    refine g1 ?_
    refine g1 ?_
    refine awp_cond rfl (fun hc => absurd hc (by decide)) (fun hc => ?_)
    refine awp_exit ?_
    repeat refine thenA_exit ?_
    refine blockA_hit ?_
    refine awp_seq ?_
    refine r1 T0_ok hP hm hN ?_
    refine g1 ?_
    refine g1 ?_
    refine awp_ret ?_
    refine fin_mk [] rfl rfl ?_ trivial (by decide)
    rfl

noncomputable abbrev s_L_markRack0 : Spec (Int × Int) where
  args := fun x => [.agg [.val (.int .i16 x.1), .nil], .val (.int .i64 x.2)]
  res := fun x => .val (.int .i64 x.2)

set_option maxRecDepth 20000 in
set_option maxHeartbeats 1000000 in
theorem ok_L_markRack0 : FnOk Pr 27 s_L_markRack0 := by
  refine fn_ok 2 0 T0_ok Go.Proofs.Try.func27 rfl (enters_of Go.Proofs.Try.func27 rfl rfl) (fun _ => rfl) (fun _ => rfl) (fun _ => rfl) ?_
  rintro ⟨p, k⟩ - C hP hN hm hG
  change awp C _ _ ⟨[(0, .agg [.val (.int .i16 p), .nil]), (1, .val (.int .i64 k))], [], 0⟩
  refine awp_seq ?_
  refine r1 T0_ok hP hm hN ?_
  refine g1 ?_
  refine g1 ?_
  refine awp_seq ?_
  refine r1 T0_ok hP hm hN ?_
  refine g1 ?_
  refine g1 ?_
  refine g1 ?_
  refine gc1 ?_ (call1 ok_L_markPlacedS0 _ [])
  refine g1 ?_
  refine awp_seq ?_
  refine r1 T0_ok hP hm hN ?_
  refine g1 ?_
  refine g1 ?_
  refine awp_ret ?_
  refine fin_mk [] rfl rfl ?_ trivial (by decide)
  rfl

noncomputable abbrev s_L_FnExactEmptyRack : Spec (Int) where
  args := fun x => [.val (.int .i64 x)]
  pre := fun x => (-9223372036854775808 ≤ x ∧ x ≤ 9223372036854775807)
  res := fun x => .val (.bool true)

set_option maxRecDepth 20000 in
set_option maxHeartbeats 4000000 in
theorem ok_L_FnExactEmptyRack : FnOk Pr 8 s_L_FnExactEmptyRack := by
  refine fn_ok 1 0 T0_ok Go.Proofs.Try.func8 rfl (enters_of Go.Proofs.Try.func8 rfl rfl) (fun _ => rfl) (fun _ => rfl) (fun _ => rfl) ?_
  rintro n - C hP hN hm hG
  change awp C _ _ ⟨[(0, .val (.int .i64 n))], [], 0⟩
  refine awp_seq ?_
  refine r1 T0_ok hP hm hN ?_
  refine g1 ?_
  refine awp_seq ?_
  refine r1 T0_ok hP hm hN ?_
  refine g1 ?_
  refine gc1 ?_ (call1 ok_S_EmptyRack _ [])
  refine g1 ?_
  refine g1 ?_
  refine g1 ?_
  refine g1 ?_
  refine g1 ?_
  refine g1 ?_
  refine awp_seq ?_
  refine r1 T0_ok hP hm hN ?_
  refine g1 ?_
  refine gc1 ?_ (call1 ok_I_EmptyRack _ [])
  refine g1 ?_
  refine g1 ?_
  refine g1 ?_
  refine g1 ?_
  refine g1 ?_
  refine g1 ?_
  refine awp_seq ?_
  refine awp_seq ?_
  refine r1 T0_ok hP hm hN ?_
  refine g1 ?_
  refine g1 ?_
  refine gc1 ?_ (call1 ok_L_eqRack ((_, []), (_, [])) [] (hpre := by (try dsimp only); exact ⟨by simp, by simp⟩))
  refine g1 ?_
  refine g1 ?_
  refine gg1 ?_
  refine gg1 ?_
  refine gg1 ?_
  refine g1 ?_
  refine awp_cond rfl (fun hc0 => ?_) (fun hc0 => ?_)
  · skip
    exfalso; simp [ask] at hc0
  · skip
    refine awp_skip ?_
    refine awp_seq ?_
    refine r1 T0_ok hP hm hN ?_
    refine g1 ?_
    refine awp_seq ?_
    refine r1 T0_ok hP hm hN ?_
    refine g1 ?_
    refine g1 ?_
    refine gc1 ?_ (call1 ok_L_markRack0 (_, _) [])
    refine g1 ?_
    refine awp_seq ?_
    refine r1 T0_ok hP hm hN ?_
    refine g1 ?_
    refine awp_seq ?_
    refine r1 T0_ok hP hm hN ?_
    refine g1 ?_
    refine g1 ?_
    refine gc1 ?_ (call1 ok_L_heldRack ((_, []), _) [] (hpre := by (try dsimp only); exact ⟨by simp, by omega, by simp⟩)) (hst := by simp +decide (disch := omega) only [nrm, lk_nrm, dc_nrm, mk_nrm, mf_nrm, ti_nrm, ls_nrm, mp_nrm, nb_nrm, hset, pick_and, pick_or, ↓reduceIte, Nat.reduceAdd, wI64, wI32, wI16, wI8, wU8, List.length_map, Int.toNat_natCast, heldR_nil]; rfl)
    refine g1 ?_
    refine awp_seq ?_
    refine awp_seq ?_
    refine r1 T0_ok hP hm hN ?_
    refine g1 ?_
    refine g1 ?_
    refine awp_cond rfl (fun hc1 => ?_) (fun hc1 => ?_)
    · skip
      exact absurd hc1 (by decide)
    · skip
      refine awp_skip ?_
      refine awp_seq ?_
      refine awp_seq ?_
      refine r1 T0_ok hP hm hN ?_
      refine g1 ?_
      refine g1 ?_
      refine g1 ?_
      refine awp_cond rfl (fun hc2 => ?_) (fun hc2 => ?_)
      · skip
        exact absurd hc2 (by decide)
      · skip
        refine awp_skip ?_
        refine awp_seq ?_
        refine r1 T0_ok hP hm hN ?_
        refine g1 ?_
        refine gc1 ?_ (call1 ok_I_EmptyRack _ [])
        refine g1 ?_
        refine g1 ?_
        refine g1 ?_
        refine g1 ?_
        refine g1 ?_
        refine g1 ?_
        refine awp_seq ?_
        refine awp_seq ?_
        refine r1 T0_ok hP hm hN ?_
        refine g1 ?_
        refine g1 ?_
        refine gc1 ?_ (call1 ok_L_eqRack ((_, []), (_, [])) [] (hpre := by (try dsimp only); exact ⟨by simp, by simp⟩))
        refine g1 ?_
        refine g1 ?_
        refine gg1 ?_
        refine gg1 ?_
        refine gg1 ?_
        refine g1 ?_
        refine awp_cond rfl (fun hc3 => ?_) (fun hc3 => ?_)
        · skip
          exfalso; simp [ask] at hc3
        · skip
          refine awp_skip ?_
          refine awp_seq ?_
          refine r1 T0_ok hP hm hN ?_
          refine g1 ?_
          refine awp_seq ?_
          refine r1 T0_ok hP hm hN ?_
          refine g1 ?_
          refine g1 ?_
          refine gc1 ?_ (call1 ok_L_heldRack ((_, []), _) [] (hpre := by (try dsimp only); exact ⟨by simp, by omega, by simp⟩)) (hst := by simp +decide (disch := omega) only [nrm, lk_nrm, dc_nrm, mk_nrm, mf_nrm, ti_nrm, ls_nrm, mp_nrm, nb_nrm, hset, pick_and, pick_or, ↓reduceIte, Nat.reduceAdd, wI64, wI32, wI16, wI8, wU8, List.length_map, Int.toNat_natCast, heldR_nil]; rfl)
          refine g1 ?_
          refine awp_seq ?_
          refine awp_seq ?_
          refine r1 T0_ok hP hm hN ?_
          refine g1 ?_
          refine g1 ?_
          refine awp_cond rfl (fun hc4 => ?_) (fun hc4 => ?_)
          · skip
            exact absurd hc4 (by decide)
          · skip
            refine awp_skip ?_
            refine awp_seq ?_
            refine awp_seq ?_
            refine r1 T0_ok hP hm hN ?_
            refine g1 ?_
            refine g1 ?_
            refine g1 ?_
            refine awp_cond rfl (fun hc5 => ?_) (fun hc5 => ?_)
            · skip
              exact absurd hc5 (by decide)
            · skip
              refine awp_skip ?_
              refine awp_seq ?_
              refine r1 T0_ok hP hm hN ?_
              refine g1 ?_
              refine awp_ret ?_
              refine fin_mk [] rfl rfl ?_ trivial (by decide)
              rfl
end Go.Proofs.Ytihgdjflacccmaa.Abs
