import Derived.Test.YtkfbpfkomppefaaY2
set_option linter.unusedVariables false
set_option linter.unusedSimpArgs false
namespace Go.Proofs.Ytkfbpfkomppefaa.Abs
open Go Go.RowKit
noncomputable abbrev s_S_l03Can : Spec (Nat × Mv) where
  args := fun x => [.val (.int .i64 (x.1 : Nat)), mvD x.2]
  pre := fun x => x.1 ≤ 1048576 ∧ isMv x.2
  res := fun x => .val (.bool (!blkBad x.1 (x.2.1, 1, x.2.2)))

set_option maxRecDepth 20000 in
set_option maxHeartbeats 1000000 in
theorem ok_S_l03Can : FnOk Pr 37 s_S_l03Can := by
  refine fn_ok 2 0 T0_ok Go.Proofs.Try.func37 rfl (enters_of Go.Proofs.Try.func37 rfl rfl) (fun _ => rfl) (fun _ => rfl) (fun _ => rfl) ?_
  rintro ⟨n1, a, b⟩ ⟨hl, ha, hb⟩ C hP hN hm hG
  change awp C _ _ ⟨[(0, .val (.int .i64 (n1 : Nat))), (1, mvD (a, b))], [], 0⟩
  simp only at hl ha hb
  refine awp_seq ?_
  refine r1 T0_ok hP hm hN ?_
  refine g1 ?_
  refine g1 ?_
  refine awp_seq ?_
  refine r1 T0_ok hP hm hN ?_
  refine g1 ?_
  refine g1 ?_
  refine g1 ?_
  refine g1 ?_
  refine g1 ?_
  refine gc1 ?_ (call1 ok_S_l00In (_, _, _) [])
  refine g1 ?_
  refine gg1 ?_
  refine gg1 ?_
  refine gg1 ?_
  refine gg1 ?_
  refine gg1 ?_
  refine ggc1 ?_ (hs := by intro hb; simp +decide only [hb, gd_tt, gd_ff, beq_self_eq_true, Bool.true_and, beq_true]; exact ⟨rfl, _, call1 ok_S_l00In (_, _, _) [], rfl, rfl, rfl⟩)
  refine g1 ?_
  refine g1 ?_
  refine awp_ret ?_
  refine fin_mk [] rfl rfl ?_ trivial (by decide)
  show D.val (.bool (!blkBad n1 (a, 1, b))) = D.val (.bool (inI a 0 ((n1 : Int) - 1) && inI b 0 ((n1 : Int) - 1)))
  rw [← can_bad, Bool.not_not]

noncomputable abbrev s_S_l03Moved : Spec (List Bk × Mv) where
  args := fun x => [.sl 8 (bks x.1), mvD x.2]
  pre := fun x => x.1.length ≤ 60 ∧ blkBad x.1.length (x.2.1, 1, x.2.2) = false
  new := fun x => [⟨60, 8, false, bks (carB x.1 (x.2.1, 1, x.2.2))⟩]
  res := fun x => .own 0

set_option maxRecDepth 20000 in
set_option maxHeartbeats 1000000 in
theorem ok_S_l03Moved : FnOk Pr 38 s_S_l03Moved := by
  refine fn_ok 2 0 T0_ok Go.Proofs.Try.func38 rfl (enters_of Go.Proofs.Try.func38 rfl rfl) (fun _ => rfl) (fun _ => rfl) (fun _ => rfl) ?_
  rintro ⟨xs, a, b⟩ ⟨hl, hbad⟩ C hP hN hm hG
  change awp C _ _ ⟨[(0, .sl 8 (bks xs)), (1, mvD (a, b))], [], 0⟩
  simp only at hl hbad
  obtain ⟨f, c, t, rfl, hc, rfl, hc1, hfc, htc⟩ := blk_nat hbad
  have hc2 : (1 : Int) = (c : Int) := hc
  obtain rfl : c = 1 := by omega
  refine awp_seq ?_
  refine r1 T0_ok hP hm hN ?_
  refine g1 ?_
  refine g1 ?_
  refine awp_seq ?_
  refine r1 T0_ok hP hm hN ?_
  refine g1 ?_
  refine g1 ?_
  refine g1 ?_
  refine g1 ?_
  refine g1 ?_
  refine g1 ?_
  refine gc1 ?_ (call1 ok_S_l03Carried (xs, f, 1, t) [] (hpre := by (try dsimp only); exact ⟨hl, hfc, htc⟩))
  refine g1 ?_
  refine awp_ret ?_
  refine fin_mk [1] rfl rfl ?_ (objs_cons rfl rfl rfl (by rfl) rfl (.inl rfl) objs_nil) (by decide)
  rfl

noncomputable abbrev s_I_moved_I_Book : Spec (List Bk × Mv) where
  args := fun x => [.sl 8 (bks x.1), mvD x.2]
  pre := fun x => x.1.length ≤ 1048576 ∧ isMv x.2
  new := fun x => [⟨60, 8, false, bks (bmR x.1 (x.2.1, 1, x.2.2)).1⟩]
  res := fun x => .tup [.own 0, .val (.bool (bmR x.1 (x.2.1, 1, x.2.2)).2)]

set_option maxRecDepth 20000 in
set_option maxHeartbeats 1000000 in
theorem ok_I_moved_I_Book : FnOk Pr 39 s_I_moved_I_Book := by
  refine fn_ok 2 0 T0_ok Go.Proofs.Try.func39 rfl (enters_of Go.Proofs.Try.func39 rfl rfl) (fun _ => rfl) (fun _ => rfl) (fun _ => rfl) ?_
  rintro ⟨xs, a, b⟩ ⟨hl, ha, hb⟩ C hP hN hm hG
  change awp C _ _ ⟨[(0, .sl 8 (bks xs)), (1, mvD (a, b))], [], 0⟩
  simp only at hl ha hb
  refine awp_seq ?_
  refine r1 T0_ok hP hm hN ?_
  refine g1 ?_
  refine g1 ?_
  refine g1 ?_
  refine awp_seq ?_
  refine r1 T0_ok hP hm hN ?_
  refine g1 ?_
  refine g1 ?_
  refine g1 ?_
  refine g1 ?_
  refine g1 ?_
  refine g1 ?_
  refine gc1 ?_ (call1 ok_I_blockMoved_I_Book (xs, a, 1, b) [] (hpre := by (try dsimp only); exact ⟨hl, isBlk_mB ha hb⟩))
  refine g1 ?_
  refine g1 ?_
  refine g1 ?_
  refine g1 ?_
  refine awp_ret ?_
  refine fin_mk [1] rfl rfl ?_ (objs_cons rfl rfl rfl rfl rfl (.inl rfl) objs_nil) (by decide)
  rfl

noncomputable abbrev s_S_MoveBlock : Spec (List Bk × Blk) where
  args := fun x => [.sl 8 (bks x.1), blkD x.2]
  pre := fun x => (∀ b ∈ x.1, isBk b) ∧ x.1.length ≤ 1048576 ∧ isBlk x.2
  new := fun x => [⟨60, 8, false, bks (mblR x.1 x.2).1⟩]
  res := fun x => .tup [.own 0, .val (.int .i64 (mblR x.1 x.2).2)]

set_option maxRecDepth 20000 in
set_option maxHeartbeats 4000000 in
theorem ok_S_MoveBlock : FnOk Pr 9 s_S_MoveBlock := by
  refine fn_ok 2 0 T0_ok Go.Proofs.Try.func9 rfl (enters_of Go.Proofs.Try.func9 rfl rfl) (fun _ => rfl) (fun _ => rfl) (fun _ => rfl) ?_
  rintro ⟨xs, a, c, b⟩ ⟨hv, hl, ha, hcc, hb⟩ C hP hN hm hG
  change awp C _ _ ⟨[(0, .sl 8 (bks xs)), (1, blkD (a, c, b))], [], 0⟩
  simp only at hv hl ha hb hcc
  refine awp_seq ?_
  refine r1 T0_ok hP hm hN ?_
  refine g1 ?_
  refine g1 ?_
  refine g1 ?_
  refine awp_seq ?_
  refine awp_seq ?_
  refine r1 T0_ok hP hm hN ?_
  refine g1 ?_
  refine gc1 ?_ (call1 ok_S_l01Ok _ [] (hpre := by (try dsimp only); exact ⟨hv, by omega⟩))
  refine g1 ?_
  refine awp_cond rfl (fun hc0 => ?_) (fun hc0 => ?_)
  · skip
    have hr : mblR xs (a, c, b) = ([], 1) := by rw [mblR, if_pos hc0]
    refine awp_seq ?_
    refine r1 T0_ok hP hm hN ?_
    refine g1 ?_
    refine g1 ?_
    refine g1 ?_
    refine awp_ret ?_
    refine fin_mk [1] rfl rfl ?_ (by simp only [hr]; exact objs_cons rfl rfl rfl rfl rfl (.inl rfl) objs_nil) (by decide)
    show D.tup [_, .val (.int .i64 (mblR xs (a, c, b)).2)] = _
    rw [hr]
    rfl
  · skip
    have h60 := valid60 hc0
    refine awp_skip ?_
    refine awp_seq ?_
    refine r1 T0_ok hP hm hN ?_
    refine g1 ?_
    refine g1 ?_
    refine g1 ?_
    refine awp_seq ?_
    refine r1 T0_ok hP hm hN ?_
    refine g1 ?_
    refine g1 ?_
    refine g1 ?_
    refine g1 ?_
    refine awp_seq ?_
    refine awp_seq ?_
    refine r1 T0_ok hP hm hN ?_
    refine g1 ?_
    refine g1 ?_
    refine g1 ?_
    refine gg1 ?_
    refine gg1 ?_
    refine gg1 ?_
    refine gg1 ?_
    refine gg1 ?_
    refine gg1 ?_
    refine ggc1 ?_ (hs := by intro hb; simp +decide only [hb, gd_tt, gd_ff, beq_self_eq_true, Bool.true_and, beq_true]; exact ⟨rfl, _, call1 ok_S_l00In (_, _, _) [], rfl, rfl, rfl⟩)
    refine gg1 ?_
    refine g1 ?_
    refine g1 ?_
    refine gg1 ?_
    refine gg1 ?_
    refine gg1 ?_
    refine gg1 ?_
    refine gg1 ?_
    refine gg1 ?_
    refine ggc1 ?_ (hs := by intro hb; simp +decide only [hb, gd_tt, gd_ff, beq_self_eq_true, Bool.true_and, beq_true]; exact ⟨rfl, _, call1 ok_S_l00In (_, _, _) [], rfl, rfl, rfl⟩)
    refine gg1 ?_
    refine g1 ?_
    refine awp_cond rfl (fun hc1 => ?_) (fun hc1 => ?_)
    · skip
      rw [spec_bad] at hc1
      have hbad : blkBad xs.length (a, c, b) = true := hc1
      have hr : mblR xs (a, c, b) = ([], 2) := by rw [mblR, if_neg (by rw [hc0]; simp), if_pos hbad]
      refine awp_seq ?_
      refine r1 T0_ok hP hm hN ?_
      refine g1 ?_
      refine g1 ?_
      refine g1 ?_
      refine awp_ret ?_
      refine fin_mk [1] rfl rfl ?_ (by simp only [hr]; exact objs_cons rfl rfl rfl rfl rfl (.inl rfl) objs_nil) (by decide)
      show D.tup [_, .val (.int .i64 (mblR xs (a, c, b)).2)] = _
      rw [hr]
      rfl
    · skip
      rw [spec_bad] at hc1
      have hbad : blkBad xs.length (a, c, b) = false := hc1
      have hr : mblR xs (a, c, b) = (carB xs (a, c, b), 0) := by rw [mblR, if_neg (by rw [hc0]; simp), if_neg (by rw [hbad]; simp)]
      obtain ⟨f, c, t, rfl, rfl, rfl, hk1, hk2, hk3⟩ := blk_nat hbad
      refine awp_skip ?_
      refine awp_seq ?_
      refine r1 T0_ok hP hm hN ?_
      refine g1 ?_
      refine g1 ?_
      refine gc1 ?_ (call1 ok_S_l03Carried (xs, f, c, t) [] (hpre := by (try dsimp only); exact ⟨h60, hk2, hk3⟩))
      refine g1 ?_
      refine g1 ?_
      refine awp_ret ?_
      refine fin_mk [1] rfl rfl ?_ (by simp only [hr]; exact objs_cons rfl rfl rfl rfl rfl (.inl rfl) objs_nil) (by decide)
      show D.tup [_, .val (.int .i64 (mblR xs ((f : Int), (c : Int), (t : Int))).2)] = _
      rw [hr]
      rfl

noncomputable abbrev s_I_MoveBlock : Spec (List Bk × Blk) where
  args := fun x => [.sl 8 (bks x.1), blkD x.2]
  pre := fun x => (∀ b ∈ x.1, isBk b) ∧ x.1.length ≤ 1048576 ∧ isBlk x.2
  new := fun x => [⟨60, 8, false, bks (mblR x.1 x.2).1⟩]
  res := fun x => .tup [.own 0, .val (.int .i64 (mblR x.1 x.2).2)]

set_option maxRecDepth 20000 in
set_option maxHeartbeats 4000000 in
theorem ok_I_MoveBlock : FnOk Pr 12 s_I_MoveBlock := by
  refine fn_ok 2 0 T0_ok Go.Proofs.Try.func12 rfl (enters_of Go.Proofs.Try.func12 rfl rfl) (fun _ => rfl) (fun _ => rfl) (fun _ => rfl) ?_
  rintro ⟨xs, a, c, b⟩ ⟨hv, hl, ha, hcc, hb⟩ C hP hN hm hG
  change awp C _ _ ⟨[(0, .sl 8 (bks xs)), (1, blkD (a, c, b))], [], 0⟩
  simp only at hv hl ha hb hcc
  refine awp_seq ?_
  refine r1 T0_ok hP hm hN ?_
  refine g1 ?_
  refine g1 ?_
  refine g1 ?_
  refine awp_seq ?_
  refine awp_seq ?_
  refine r1 T0_ok hP hm hN ?_
  refine g1 ?_
  refine gc1 ?_ (call1 ok_I_ValidBooks _ [] (hpre := by (try dsimp only); omega))
  refine g1 ?_
  refine awp_cond rfl (fun hc0 => ?_) (fun hc0 => ?_)
  · skip
    have hr : mblR xs (a, c, b) = ([], 1) := by rw [mblR, if_pos hc0]
    refine awp_seq ?_
    refine r1 T0_ok hP hm hN ?_
    refine g1 ?_
    refine g1 ?_
    refine awp_weak (weak_nil 4 60 8 rfl) ?_
    refine awp_ret ?_
    refine fin_mk [1] rfl rfl ?_ (by first | (simp only [hr]; exact objs_cons rfl rfl rfl rfl rfl (.inl rfl) objs_nil) | (simp only [hr, hg]; exact objs_cons rfl rfl rfl rfl rfl (.inl rfl) objs_nil)) (by decide)
    show D.tup [_, .val (.int .i64 (mblR xs (a, c, b)).2)] = _
    rw [hr]
    rfl
  · skip
    have h60 := valid60 hc0
    refine awp_skip ?_
    refine awp_seq ?_
    refine r1 T0_ok hP hm hN ?_
    refine g1 ?_
    refine g1 ?_
    refine gc1 ?_ (call1 ok_I_blockMoved_I_Book (xs, a, c, b) [] (hpre := by (try dsimp only); exact ⟨hl, ha, hcc, hb⟩))
    refine g1 ?_
    refine g1 ?_
    refine g1 ?_
    refine g1 ?_
    refine g1 ?_
    refine awp_seq ?_
    refine awp_seq ?_
    refine r1 T0_ok hP hm hN ?_
    refine g1 ?_
    refine g1 ?_
    refine awp_cond rfl (fun hc1 => ?_) (fun hc1 => ?_)
    · skip
      rw [bmR_snd, Bool.not_not] at hc1
      have hbad : blkBad xs.length (a, c, b) = true := hc1
      have hr : mblR xs (a, c, b) = ([], 2) := by rw [mblR, if_neg (by rw [hc0]; simp), if_pos hbad]
      refine awp_seq ?_
      refine r1 T0_ok hP hm hN ?_
      refine g1 ?_
      refine g1 ?_
      refine awp_weak (weak_nil 4 60 8 rfl) ?_
      refine awp_ret ?_
      refine fin_mk [2] rfl rfl ?_ (by first | (simp only [hr]; exact objs_cons rfl rfl rfl rfl rfl (.inl rfl) objs_nil) | (simp only [hr, hg]; exact objs_cons rfl rfl rfl rfl rfl (.inl rfl) objs_nil)) (by decide)
      show D.tup [_, .val (.int .i64 (mblR xs (a, c, b)).2)] = _
      rw [hr]
      rfl
    · skip
      rw [bmR_snd, Bool.not_not] at hc1
      have hbad : blkBad xs.length (a, c, b) = false := hc1
      have hr : mblR xs (a, c, b) = (carB xs (a, c, b), 0) := by rw [mblR, if_neg (by rw [hc0]; simp), if_neg (by rw [hbad]; simp)]
      have hg := bmR_good hbad
      refine awp_skip ?_
      refine awp_seq ?_
      refine r1 T0_ok hP hm hN ?_
      refine g1 ?_
      refine g1 ?_
      refine g1 ?_
      refine awp_ret ?_
      refine fin_mk [1] rfl rfl ?_ (by first | (simp only [hr]; exact objs_cons rfl rfl rfl rfl rfl (.inl rfl) objs_nil) | (simp only [hr, hg]; exact objs_cons rfl rfl rfl rfl rfl (.inl rfl) objs_nil)) (by decide)
      show D.tup [_, .val (.int .i64 (mblR xs (a, c, b)).2)] = _
      rw [hr]
      rfl

noncomputable abbrev s_S_MoveBook : Spec (List Bk × Mv) where
  args := fun x => [.sl 8 (bks x.1), mvD x.2]
  pre := fun x => (∀ b ∈ x.1, isBk b) ∧ x.1.length ≤ 1048576 ∧ isMv x.2
  new := fun x => [⟨60, 8, false, bks (mblR x.1 (x.2.1, 1, x.2.2)).1⟩]
  res := fun x => .tup [.own 0, .val (.int .i64 (mblR x.1 (x.2.1, 1, x.2.2)).2)]

set_option maxRecDepth 20000 in
set_option maxHeartbeats 4000000 in
theorem ok_S_MoveBook : FnOk Pr 16 s_S_MoveBook := by
  refine fn_ok 2 0 T0_ok Go.Proofs.Try.func16 rfl (enters_of Go.Proofs.Try.func16 rfl rfl) (fun _ => rfl) (fun _ => rfl) (fun _ => rfl) ?_
  rintro ⟨xs, a, b⟩ ⟨hv, hl, ha, hb⟩ C hP hN hm hG
  change awp C _ _ ⟨[(0, .sl 8 (bks xs)), (1, mvD (a, b))], [], 0⟩
  simp only at hv hl ha hb
  refine awp_seq ?_
  refine r1 T0_ok hP hm hN ?_
  refine g1 ?_
  refine g1 ?_
  refine g1 ?_
  refine awp_seq ?_
  refine awp_seq ?_
  refine r1 T0_ok hP hm hN ?_
  refine g1 ?_
  refine gc1 ?_ (call1 ok_S_l01Ok _ [] (hpre := by (try dsimp only); exact ⟨hv, by omega⟩))
  refine g1 ?_
  refine awp_cond rfl (fun hc0 => ?_) (fun hc0 => ?_)
  · skip
    have hr : mblR xs (a, 1, b) = ([], 1) := by rw [mblR, if_pos hc0]
    refine awp_seq ?_
    refine r1 T0_ok hP hm hN ?_
    refine g1 ?_
    refine g1 ?_
    refine g1 ?_
    refine awp_ret ?_
    refine fin_mk [1] rfl rfl ?_ (by simp only [hr]; exact objs_cons rfl rfl rfl rfl rfl (.inl rfl) objs_nil) (by decide)
    show D.tup [_, .val (.int .i64 (mblR xs (a, 1, b)).2)] = _
    rw [hr]
    rfl
  · skip
    have h60 := valid60 hc0
    refine awp_skip ?_
    refine awp_seq ?_
    refine awp_seq ?_
    refine r1 T0_ok hP hm hN ?_
    refine g1 ?_
    refine g1 ?_
    refine g1 ?_
    refine gc1 ?_ (call1 ok_S_l03Can (_, _, _) [] (hpre := by (try dsimp only); exact ⟨by (try simp only [List.length_map]); omega, ha, hb⟩))
    refine g1 ?_
    refine awp_cond rfl (fun hc1 => ?_) (fun hc1 => ?_)
    · skip
      rw [Bool.not_not] at hc1
      have hbad : blkBad xs.length (a, 1, b) = true := hc1
      have hr : mblR xs (a, 1, b) = ([], 2) := by rw [mblR, if_neg (by rw [hc0]; simp), if_pos hbad]
      refine awp_seq ?_
      refine r1 T0_ok hP hm hN ?_
      refine g1 ?_
      refine g1 ?_
      refine g1 ?_
      refine awp_ret ?_
      refine fin_mk [1] rfl rfl ?_ (by simp only [hr]; exact objs_cons rfl rfl rfl rfl rfl (.inl rfl) objs_nil) (by decide)
      show D.tup [_, .val (.int .i64 (mblR xs (a, 1, b)).2)] = _
      rw [hr]
      rfl
    · skip
      rw [Bool.not_not] at hc1
      have hbad : blkBad xs.length (a, 1, b) = false := hc1
      have hr : mblR xs (a, 1, b) = (carB xs (a, 1, b), 0) := by rw [mblR, if_neg (by rw [hc0]; simp), if_neg (by rw [hbad]; simp)]
      refine awp_skip ?_
      refine awp_seq ?_
      refine r1 T0_ok hP hm hN ?_
      refine g1 ?_
      refine g1 ?_
      refine gc1 ?_ (call1 ok_S_l03Moved (xs, a, b) [] (hpre := by (try dsimp only); exact ⟨h60, hbad⟩))
      refine g1 ?_
      refine g1 ?_
      refine awp_ret ?_
      refine fin_mk [1] rfl rfl ?_ (by simp only [hr]; exact objs_cons rfl rfl rfl rfl rfl (.inl rfl) objs_nil) (by decide)
      show D.tup [_, .val (.int .i64 (mblR xs (a, 1, b)).2)] = _
      rw [hr]
      rfl

noncomputable abbrev s_I_MoveBook : Spec (List Bk × Mv) where
  args := fun x => [.sl 8 (bks x.1), mvD x.2]
  pre := fun x => (∀ b ∈ x.1, isBk b) ∧ x.1.length ≤ 1048576 ∧ isMv x.2
  new := fun x => [⟨60, 8, false, bks (mblR x.1 (x.2.1, 1, x.2.2)).1⟩]
  res := fun x => .tup [.own 0, .val (.int .i64 (mblR x.1 (x.2.1, 1, x.2.2)).2)]

set_option maxRecDepth 20000 in
set_option maxHeartbeats 4000000 in
theorem ok_I_MoveBook : FnOk Pr 18 s_I_MoveBook := by
  refine fn_ok 2 0 T0_ok Go.Proofs.Try.func18 rfl (enters_of Go.Proofs.Try.func18 rfl rfl) (fun _ => rfl) (fun _ => rfl) (fun _ => rfl) ?_
  rintro ⟨xs, a, b⟩ ⟨hv, hl, ha, hb⟩ C hP hN hm hG
  change awp C _ _ ⟨[(0, .sl 8 (bks xs)), (1, mvD (a, b))], [], 0⟩
  simp only at hv hl ha hb
  refine awp_seq ?_
  refine r1 T0_ok hP hm hN ?_
  refine g1 ?_
  refine g1 ?_
  refine g1 ?_
  refine awp_seq ?_
  refine awp_seq ?_
  refine r1 T0_ok hP hm hN ?_
  refine g1 ?_
  refine gc1 ?_ (call1 ok_I_ValidBooks _ [] (hpre := by (try dsimp only); omega))
  refine g1 ?_
  refine awp_cond rfl (fun hc0 => ?_) (fun hc0 => ?_)
  · skip
    have hr : mblR xs (a, 1, b) = ([], 1) := by rw [mblR, if_pos hc0]
    refine awp_seq ?_
    refine r1 T0_ok hP hm hN ?_
    refine g1 ?_
    refine g1 ?_
    refine awp_weak (weak_nil 4 60 8 rfl) ?_
    refine awp_ret ?_
    refine fin_mk [1] rfl rfl ?_ (by first | (simp only [hr]; exact objs_cons rfl rfl rfl rfl rfl (.inl rfl) objs_nil) | (simp only [hr, hg]; exact objs_cons rfl rfl rfl rfl rfl (.inl rfl) objs_nil)) (by decide)
    show D.tup [_, .val (.int .i64 (mblR xs (a, 1, b)).2)] = _
    rw [hr]
    rfl
  · skip
    have h60 := valid60 hc0
    refine awp_skip ?_
    refine awp_seq ?_
    refine r1 T0_ok hP hm hN ?_
    refine g1 ?_
    refine g1 ?_
    refine gc1 ?_ (call1 ok_I_moved_I_Book (xs, a, b) [] (hpre := by (try dsimp only); exact ⟨hl, ha, hb⟩))
    refine g1 ?_
    refine g1 ?_
    refine g1 ?_
    refine g1 ?_
    refine g1 ?_
    refine awp_seq ?_
    refine awp_seq ?_
    refine r1 T0_ok hP hm hN ?_
    refine g1 ?_
    refine g1 ?_
    refine awp_cond rfl (fun hc1 => ?_) (fun hc1 => ?_)
    · skip
      rw [bmR_snd, Bool.not_not] at hc1
      have hbad : blkBad xs.length (a, 1, b) = true := hc1
      have hr : mblR xs (a, 1, b) = ([], 2) := by rw [mblR, if_neg (by rw [hc0]; simp), if_pos hbad]
      refine awp_seq ?_
      refine r1 T0_ok hP hm hN ?_
      refine g1 ?_
      refine g1 ?_
      refine awp_weak (weak_nil 4 60 8 rfl) ?_
      refine awp_ret ?_
      refine fin_mk [2] rfl rfl ?_ (by first | (simp only [hr]; exact objs_cons rfl rfl rfl rfl rfl (.inl rfl) objs_nil) | (simp only [hr, hg]; exact objs_cons rfl rfl rfl rfl rfl (.inl rfl) objs_nil)) (by decide)
      show D.tup [_, .val (.int .i64 (mblR xs (a, 1, b)).2)] = _
      rw [hr]
      rfl
    · skip
      rw [bmR_snd, Bool.not_not] at hc1
      have hbad : blkBad xs.length (a, 1, b) = false := hc1
      have hr : mblR xs (a, 1, b) = (carB xs (a, 1, b), 0) := by rw [mblR, if_neg (by rw [hc0]; simp), if_neg (by rw [hbad]; simp)]
      have hg := bmR_good hbad
      refine awp_skip ?_
      refine awp_seq ?_
      refine r1 T0_ok hP hm hN ?_
      refine g1 ?_
      refine g1 ?_
      refine g1 ?_
      refine awp_ret ?_
      refine fin_mk [1] rfl rfl ?_ (by first | (simp only [hr]; exact objs_cons rfl rfl rfl rfl rfl (.inl rfl) objs_nil) | (simp only [hr, hg]; exact objs_cons rfl rfl rfl rfl rfl (.inl rfl) objs_nil)) (by decide)
      show D.tup [_, .val (.int .i64 (mblR xs (a, 1, b)).2)] = _
      rw [hr]
      rfl
end Go.Proofs.Ytkfbpfkomppefaa.Abs
