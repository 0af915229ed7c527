import Derived.Test.YtpdkhlpmiblflaaGreatB3
set_option linter.unusedVariables false
set_option linter.unusedSimpArgs false
namespace Go.Proofs.YtpdkhlpmiblflaaGreat.Abs
open Go Go.RowKit
noncomputable abbrev s_I_within_int : Spec (Int × Int × Int) where
  args := fun x => [.val (.int .i64 x.1), .val (.int .i64 x.2.1), .val (.int .i64 x.2.2)]
  res := fun x => .val (.bool (inI x.1 x.2.1 x.2.2))

set_option maxRecDepth 20000 in
set_option maxHeartbeats 1000000 in
theorem ok_I_within_int : FnOk Pr 52 s_I_within_int := by
 refine fn_ok 3 0 T0_ok Go.Proofs.Tryz.func52 rfl (enters_of Go.Proofs.Tryz.func52 rfl rfl) (fun _ => rfl) (fun _ => rfl) (fun _ => rfl) ?_
 rintro ⟨n, lo, hi⟩ - C hP hN hm hG
 change awp C _ _ ⟨[(0, .val (.int .i64 n)), (1, .val (.int .i64 lo)), (2, .val (.int .i64 hi))], [], 0⟩
 refine awp_seq ?_
 refine r1 T0_ok hP hm hN ?_
 refine g1 ?_
 refine awp_seq ?_
 refine r1 T0_ok hP hm hN ?_
 iterate 4 refine g1 ?_
 iterate 3 refine gg1 ?_
 iterate 2 refine g1 ?_
 refine awp_ret ?_
 refine fin_mk [] rfl rfl ?_ trivial (by decide)
 rfl

noncomputable abbrev s_I_blockMoved_I_Book : Spec (List Bk × Blk) where
  args := fun x => [.sl 8 (bks x.1), blkD x.2]
  pre := fun x => x.1.length ≤ 1048576 ∧ isBlk x.2
  new := fun x => [⟨73, 8, false, bks (bmR x.1 x.2).1⟩]
  res := fun x => .tup [.own 0, .val (.bool (bmR x.1 x.2).2)]

set_option maxRecDepth 20000 in
set_option maxHeartbeats 4000000 in
theorem ok_I_blockMoved_I_Book : FnOk Pr 40 s_I_blockMoved_I_Book := by
 refine fn_ok 2 0 T0_ok Go.Proofs.Tryz.func40 rfl (enters_of Go.Proofs.Tryz.func40 rfl rfl) (fun _ => rfl) (fun _ => rfl) (fun _ => rfl) ?_
 rintro ⟨xs, b1, b2, b3⟩ ⟨hl, hb1, hb2, hb3⟩ C hP hN hm hG
 change awp C _ _ ⟨[(0, .sl 8 (bks xs)), (1, blkD (b1, b2, b3))], [], 0⟩
 simp only at hl hb1 hb2 hb3
 refine awp_seq ?_
 refine r1 T0_ok hP hm hN ?_
 iterate 3 refine g1 ?_
 refine awp_seq ?_
 refine awp_draw T0_ok hP hm hN Pr_mix [0, 1, 2, 3, 4, 5, 6, 7, 8, 9, 10, 11] [] _ rfl (by rfl) ?_
 iterate 12 refine d1 T0_ok ?_
 refine dreg_nil ?_
 refine awp_seq ?_
 refine awp_seq ?_
 refine r1 T0_ok hP hm hN ?_
 iterate 3 refine g1 ?_
 iterate 2 refine gg1 ?_
 iterate 2 refine g1 ?_
 iterate 6 refine gg1 ?_
 iterate 2 refine g1 ?_
 iterate 5 refine gg1 ?_
 refine ggc1 ?_ (hs := by intro hb; simp +decide only [hb, gd_tt, gd_ff, beq_self_eq_true, Bool.true_and, beq_true]; exact ⟨rfl, _, call1 ok_I_within_int (_, _, _) [], rfl, rfl, rfl⟩)
 refine gg1 ?_
 refine g1 ?_
 refine awp_cond rfl (fun hc0 => ?_) (fun hc0 => ?_)
 ·
  have hr : bmR xs (b1, b2, b3) = ([], false) := by rw [bmR, if_pos (show blkBad xs.length (b1, b2, b3) = true from hc0)]
  refine awp_seq ?_
  refine r1 T0_ok hP hm hN ?_
  iterate 2 refine g1 ?_
  refine awp_weak (weak_nil 4 73 8 rfl) ?_
  refine awp_ret ?_
  refine fin_mk [1] rfl rfl ?_ (by simp only [hr]; first | exact objs_cons rfl rfl rfl rfl rfl (.inl rfl) objs_nil | (rw [hcar]; exact objs_cons rfl rfl rfl rfl rfl (.inl rfl) objs_nil)) (by decide)
  show D.tup [_, .val (.bool (bmR xs (b1, b2, b3)).2)] = _
  rw [hr]
  rfl
 ·
  have hr : bmR xs (b1, b2, b3) = (carB xs (b1, b2, b3), true) := by rw [bmR, if_neg (by rw [show blkBad xs.length (b1, b2, b3) = false from hc0]; simp)]
  obtain ⟨f, c, t, rfl, rfl, rfl, hc1, hfc, htc⟩ := blk_nat hc0
  have hcar : carB xs ((f : Int), (c : Int), (t : Int)) = (xs.take f ++ xs.drop (f + c)).take t ++ (xs.drop f).take c ++ (xs.take f ++ xs.drop (f + c)).drop t := rfl
  have hfe : f + c - f = c := by omega
  have hrl : (xs.take f ++ xs.drop (f + c)).length = xs.length - c := by simp only [List.length_append, List.length_take, List.length_drop]; omega
  refine awp_skip ?_
  refine awp_seq ?_
  refine r1 T0_ok hP hm hN ?_
  iterate 4 refine g1 ?_
  refine g1 ?_ (hst := by simp +decide (disch := omega) only [nrm, lk_nrm, dc_nrm, mk_nrm, mf_nrm, ti_nrm, ls_nrm, mp_nrm, nb_nrm, hset, pick_and, pick_or, ↓reduceIte, Nat.reduceAdd, wI64, wI32, wI16, wI8, wU8, List.length_map, Int.toNat_natCast, xn1, xn2, natadd']; rfl)
  refine g1 ?_ (hpre := by exact ⟨rfl, by omega, by omega, by simp only [List.length_map]; omega⟩) (hst := by simp +decide (disch := omega) only [nrm, lk_nrm, dc_nrm, mk_nrm, mf_nrm, ti_nrm, ls_nrm, mp_nrm, nb_nrm, hset, pick_and, pick_or, ↓reduceIte, Nat.reduceAdd, wI64, wI32, wI16, wI8, wU8, List.length_map, Int.toNat_natCast, xn1, xn2, natadd', Int.toNat_natCast, ← List.map_drop, ← List.map_take, hfe]; rfl)
  refine gc1 ?_ (call1 ok_slices_Clone_I_Book_I_Book _ [] (hpre := by (try dsimp only); (simp only [List.length_take, List.length_drop]; omega)))
  refine g1 ?_
  refine awp_seq ?_
  refine r1 T0_ok hP hm hN ?_
  refine g1 ?_
  refine gc1 ?_ (call1 ok_slices_Clone_I_Book_I_Book _ [] (hpre := by (try dsimp only); omega))
  iterate 3 refine g1 ?_
  refine g1 ?_ (hst := by simp +decide (disch := omega) only [nrm, lk_nrm, dc_nrm, mk_nrm, mf_nrm, ti_nrm, ls_nrm, mp_nrm, nb_nrm, hset, pick_and, pick_or, ↓reduceIte, Nat.reduceAdd, wI64, wI32, wI16, wI8, wU8, List.length_map, Int.toNat_natCast, xn1, xn2, natadd']; rfl)
  refine gc1 ?_ (call1 ok_slices_Delete_I_Book_I_Book (xs, f, f + c) [2] (hpre := by (try dsimp only); exact ⟨by omega, by omega, by omega⟩) (hfo := by exact fm_cons (flat_bks _ _ _ _) fm_nil)) (hst := by simp +decide (disch := omega) only [nrm, lk_nrm, dc_nrm, mk_nrm, mf_nrm, ti_nrm, ls_nrm, mp_nrm, nb_nrm, hset, pick_and, pick_or, ↓reduceIte, Nat.reduceAdd, wI64, wI32, wI16, wI8, wU8, List.length_map, Int.toNat_natCast, xn1, xn2, hfe]; rfl)
  iterate 2 refine g1 ?_
  refine gc1 ?_ (call1 ok_slices_Insert_I_Book_I_Book (xs.take f ++ xs.drop (f + c), List.replicate c bk0, (xs.drop f).take c, t) [2, 1] (hargs := (by (try dsimp only); exact args_cons (arga_vw rfl rfl (by rw [hrl]; omega)) (args_cons arga_val (args_cons (arga_own rfl) args_nil)))) (hpre := by (try dsimp only); exact ⟨by simp only [List.length_take, List.length_drop]; omega, by simp only [List.length_replicate, List.length_take, List.length_drop]; omega, by omega, by simp only [List.length_take, List.length_drop]; omega⟩) (hobs := (by first | exact objs_cons rfl rfl rfl rfl rfl (.inl rfl) (objs_cons rfl rfl rfl rfl rfl (.inl rfl) objs_nil))) (hfo := by exact fm_cons (flat_bks _ _ _ _) (fm_cons (flat_bks _ _ _ _) fm_nil)))
  iterate 2 refine g1 ?_
  refine awp_weak (weak_vw_own (t := 4) rfl rfl (by simp only [List.length_map, List.length_append, List.length_take, List.length_drop]; omega) (by simp only [List.length_take, List.length_drop]; omega)) ?_
  refine awp_ret ?_
  refine fin_mk [2] rfl rfl ?_ (by simp only [hr]; first | exact objs_cons rfl rfl rfl rfl rfl (.inl rfl) objs_nil | (rw [hcar]; exact objs_cons rfl rfl rfl rfl rfl (.inl rfl) objs_nil)) (by decide)
  show D.tup [_, .val (.bool (bmR xs ((f : Int), (c : Int), (t : Int))).2)] = _
  rw [hr]
  rfl

abbrev Mv := Int × Int
abbrev mvD (p : Mv) : D := .val (.agg #[.int .i16 p.1, .int .i16 p.2])
theorem bmR_snd (xs : List Bk) (b : Blk) : (bmR xs b).2 = !blkBad xs.length b := by unfold bmR; cases h : blkBad xs.length b <;> simp
theorem bmR_good {xs : List Bk} {b : Blk} (h : blkBad xs.length b = false) : bmR xs b = (carB xs b, true) := by simp [bmR, h]
abbrev isMv (m : Mv) : Prop := isI16 m.1 ∧ isI16 m.2
theorem isBlk_mB {a b : Int} (h1 : isI16 a) (h2 : isI16 b) : isBlk (a, 1, b) := ⟨h1, (show isI16 1 by decide), h2⟩
def mblR (xs : List Bk) (b : Blk) : List Bk × Int := if !validBs xs then ([], 1) else if blkBad xs.length b then ([], 2) else (carB xs b, 0)
noncomputable abbrev s_I_moved_I_Book : Spec (List Bk × Mv) where
  args := fun x => [.sl 8 (bks x.1), mvD x.2]
  pre := fun x => x.1.length ≤ 1048576 ∧ isMv x.2
  new := fun x => [⟨73, 8, false, bks (bmR x.1 (x.2.1, 1, x.2.2)).1⟩]
  res := fun x => .tup [.own 0, .val (.bool (bmR x.1 (x.2.1, 1, x.2.2)).2)]

set_option maxRecDepth 20000 in
set_option maxHeartbeats 1000000 in
theorem ok_I_moved_I_Book : FnOk Pr 43 s_I_moved_I_Book := by
 refine fn_ok 2 0 T0_ok Go.Proofs.Tryz.func43 rfl (enters_of Go.Proofs.Tryz.func43 rfl rfl) (fun _ => rfl) (fun _ => rfl) (fun _ => rfl) ?_
 rintro ⟨xs, a, b⟩ ⟨hl, ha, hb⟩ C hP hN hm hG
 change awp C _ _ ⟨[(0, .sl 8 (bks xs)), (1, mvD (a, b))], [], 0⟩
 simp only at hl ha hb
 refine awp_seq ?_
 refine r1 T0_ok hP hm hN ?_
 iterate 3 refine g1 ?_
 refine awp_seq ?_
 refine r1 T0_ok hP hm hN ?_
 iterate 6 refine g1 ?_
 refine gc1 ?_ (call1 ok_I_blockMoved_I_Book (xs, a, 1, b) [] (hpre := by (try dsimp only); exact ⟨hl, isBlk_mB ha hb⟩))
 iterate 4 refine g1 ?_
 refine awp_ret ?_
 refine fin_mk [1] rfl rfl ?_ (objs_cons rfl rfl rfl rfl rfl (.inl rfl) objs_nil) (by decide)
 rfl


noncomputable abbrev s_I_MoveBlock : Spec (List Bk × Blk) where
  args := fun x => [.sl 8 (bks x.1), blkD x.2]
  pre := fun x => (∀ b ∈ x.1, isBk b) ∧ x.1.length ≤ 1048576 ∧ isBlk x.2
  new := fun x => [⟨73, 8, false, bks (mblR x.1 x.2).1⟩]
  res := fun x => .tup [.own 0, .val (.int .i64 (mblR x.1 x.2).2)]

set_option maxRecDepth 20000 in
set_option maxHeartbeats 4000000 in
theorem ok_I_MoveBlock : FnOk Pr 16 s_I_MoveBlock := by
 refine fn_ok 2 0 T0_ok Go.Proofs.Tryz.func16 rfl (enters_of Go.Proofs.Tryz.func16 rfl rfl) (fun _ => rfl) (fun _ => rfl) (fun _ => rfl) ?_
 rintro ⟨xs, a, c, b⟩ ⟨hv, hl, ha, hcc, hb⟩ C hP hN hm hG
 change awp C _ _ ⟨[(0, .sl 8 (bks xs)), (1, blkD (a, c, b))], [], 0⟩
 simp only at hv hl ha hb hcc
 refine awp_seq ?_
 refine r1 T0_ok hP hm hN ?_
 iterate 3 refine g1 ?_
 refine awp_seq ?_
 refine awp_seq ?_
 refine r1 T0_ok hP hm hN ?_
 refine g1 ?_
 refine gc1 ?_ (call1 ok_I_ValidBooks _ [] (hpre := by (try dsimp only); omega))
 refine g1 ?_
 refine awp_cond rfl (fun hc0 => ?_) (fun hc0 => ?_)
 ·
  have hr : mblR xs (a, c, b) = ([], 1) := by rw [mblR, if_pos hc0]
  refine awp_seq ?_
  refine r1 T0_ok hP hm hN ?_
  iterate 2 refine g1 ?_
  refine awp_weak (weak_nil 4 73 8 rfl) ?_
  refine awp_ret ?_
  refine fin_mk [1] rfl rfl ?_ (by first | (simp only [hr]; exact objs_cons rfl rfl rfl rfl rfl (.inl rfl) objs_nil) | (simp only [hr, hg]; exact objs_cons rfl rfl rfl rfl rfl (.inl rfl) objs_nil)) (by decide)
  show D.tup [_, .val (.int .i64 (mblR xs (a, c, b)).2)] = _
  rw [hr]
  rfl
 ·
  have h60 := valid60 hc0
  refine awp_skip ?_
  refine awp_seq ?_
  refine r1 T0_ok hP hm hN ?_
  iterate 2 refine g1 ?_
  refine gc1 ?_ (call1 ok_I_blockMoved_I_Book (xs, a, c, b) [] (hpre := by (try dsimp only); exact ⟨hl, ha, hcc, hb⟩))
  iterate 5 refine g1 ?_
  refine awp_seq ?_
  refine awp_seq ?_
  refine r1 T0_ok hP hm hN ?_
  iterate 2 refine g1 ?_
  refine awp_cond rfl (fun hc1 => ?_) (fun hc1 => ?_)
  ·
   rw [bmR_snd, Bool.not_not] at hc1
   have hbad : blkBad xs.length (a, c, b) = true := hc1
   have hr : mblR xs (a, c, b) = ([], 2) := by rw [mblR, if_neg (by rw [hc0]; simp), if_pos hbad]
   refine awp_seq ?_
   refine r1 T0_ok hP hm hN ?_
   iterate 2 refine g1 ?_
   refine awp_weak (weak_nil 4 73 8 rfl) ?_
   refine awp_ret ?_
   refine fin_mk [2] rfl rfl ?_ (by first | (simp only [hr]; exact objs_cons rfl rfl rfl rfl rfl (.inl rfl) objs_nil) | (simp only [hr, hg]; exact objs_cons rfl rfl rfl rfl rfl (.inl rfl) objs_nil)) (by decide)
   show D.tup [_, .val (.int .i64 (mblR xs (a, c, b)).2)] = _
   rw [hr]
   rfl
  ·
   rw [bmR_snd, Bool.not_not] at hc1
   have hbad : blkBad xs.length (a, c, b) = false := hc1
   have hr : mblR xs (a, c, b) = (carB xs (a, c, b), 0) := by rw [mblR, if_neg (by rw [hc0]; simp), if_neg (by rw [hbad]; simp)]
   have hg := bmR_good hbad
   refine awp_skip ?_
   refine awp_seq ?_
   refine r1 T0_ok hP hm hN ?_
   iterate 3 refine g1 ?_
   refine awp_ret ?_
   refine fin_mk [1] rfl rfl ?_ (by first | (simp only [hr]; exact objs_cons rfl rfl rfl rfl rfl (.inl rfl) objs_nil) | (simp only [hr, hg]; exact objs_cons rfl rfl rfl rfl rfl (.inl rfl) objs_nil)) (by decide)
   show D.tup [_, .val (.int .i64 (mblR xs (a, c, b)).2)] = _
   rw [hr]
   rfl


noncomputable abbrev s_I_MoveBook : Spec (List Bk × Mv) where
  args := fun x => [.sl 8 (bks x.1), mvD x.2]
  pre := fun x => (∀ b ∈ x.1, isBk b) ∧ x.1.length ≤ 1048576 ∧ isMv x.2
  new := fun x => [⟨73, 8, false, bks (mblR x.1 (x.2.1, 1, x.2.2)).1⟩]
  res := fun x => .tup [.own 0, .val (.int .i64 (mblR x.1 (x.2.1, 1, x.2.2)).2)]

set_option maxRecDepth 20000 in
set_option maxHeartbeats 4000000 in
theorem ok_I_MoveBook : FnOk Pr 19 s_I_MoveBook := by
 refine fn_ok 2 0 T0_ok Go.Proofs.Tryz.func19 rfl (enters_of Go.Proofs.Tryz.func19 rfl rfl) (fun _ => rfl) (fun _ => rfl) (fun _ => rfl) ?_
 rintro ⟨xs, a, b⟩ ⟨hv, hl, ha, hb⟩ C hP hN hm hG
 change awp C _ _ ⟨[(0, .sl 8 (bks xs)), (1, mvD (a, b))], [], 0⟩
 simp only at hv hl ha hb
 refine awp_seq ?_
 refine r1 T0_ok hP hm hN ?_
 iterate 3 refine g1 ?_
 refine awp_seq ?_
 refine awp_seq ?_
 refine r1 T0_ok hP hm hN ?_
 refine g1 ?_
 refine gc1 ?_ (call1 ok_I_ValidBooks _ [] (hpre := by (try dsimp only); omega))
 refine g1 ?_
 refine awp_cond rfl (fun hc0 => ?_) (fun hc0 => ?_)
 ·
  have hr : mblR xs (a, 1, b) = ([], 1) := by rw [mblR, if_pos hc0]
  refine awp_seq ?_
  refine r1 T0_ok hP hm hN ?_
  iterate 2 refine g1 ?_
  refine awp_weak (weak_nil 4 73 8 rfl) ?_
  refine awp_ret ?_
  refine fin_mk [1] rfl rfl ?_ (by first | (simp only [hr]; exact objs_cons rfl rfl rfl rfl rfl (.inl rfl) objs_nil) | (simp only [hr, hg]; exact objs_cons rfl rfl rfl rfl rfl (.inl rfl) objs_nil)) (by decide)
  show D.tup [_, .val (.int .i64 (mblR xs (a, 1, b)).2)] = _
  rw [hr]
  rfl
 ·
  have h60 := valid60 hc0
  refine awp_skip ?_
  refine awp_seq ?_
  refine r1 T0_ok hP hm hN ?_
  iterate 2 refine g1 ?_
  refine gc1 ?_ (call1 ok_I_moved_I_Book (xs, a, b) [] (hpre := by (try dsimp only); exact ⟨hl, ha, hb⟩))
  iterate 5 refine g1 ?_
  refine awp_seq ?_
  refine awp_seq ?_
  refine r1 T0_ok hP hm hN ?_
  iterate 2 refine g1 ?_
  refine awp_cond rfl (fun hc1 => ?_) (fun hc1 => ?_)
  ·
   rw [bmR_snd, Bool.not_not] at hc1
   have hbad : blkBad xs.length (a, 1, b) = true := hc1
   have hr : mblR xs (a, 1, b) = ([], 2) := by rw [mblR, if_neg (by rw [hc0]; simp), if_pos hbad]
   refine awp_seq ?_
   refine r1 T0_ok hP hm hN ?_
   iterate 2 refine g1 ?_
   refine awp_weak (weak_nil 4 73 8 rfl) ?_
   refine awp_ret ?_
   refine fin_mk [2] rfl rfl ?_ (by first | (simp only [hr]; exact objs_cons rfl rfl rfl rfl rfl (.inl rfl) objs_nil) | (simp only [hr, hg]; exact objs_cons rfl rfl rfl rfl rfl (.inl rfl) objs_nil)) (by decide)
   show D.tup [_, .val (.int .i64 (mblR xs (a, 1, b)).2)] = _
   rw [hr]
   rfl
  ·
   rw [bmR_snd, Bool.not_not] at hc1
   have hbad : blkBad xs.length (a, 1, b) = false := hc1
   have hr : mblR xs (a, 1, b) = (carB xs (a, 1, b), 0) := by rw [mblR, if_neg (by rw [hc0]; simp), if_neg (by rw [hbad]; simp)]
   have hg := bmR_good hbad
   refine awp_skip ?_
   refine awp_seq ?_
   refine r1 T0_ok hP hm hN ?_
   iterate 3 refine g1 ?_
   refine awp_ret ?_
   refine fin_mk [1] rfl rfl ?_ (by first | (simp only [hr]; exact objs_cons rfl rfl rfl rfl rfl (.inl rfl) objs_nil) | (simp only [hr, hg]; exact objs_cons rfl rfl rfl rfl rfl (.inl rfl) objs_nil)) (by decide)
   show D.tup [_, .val (.int .i64 (mblR xs (a, 1, b)).2)] = _
   rw [hr]
   rfl

def outBad (xs : List Bk) (j : Nat) : Bool := decide (cmpU (xs.getD j bk0) (xs.getD (j - 1) bk0) < 0)
def srtP (xs : List Bk) : Prop := ∀ j, 1 ≤ j → j < xs.length → outBad xs j = false
theorem tn2 (j : Nat) : ((j : Int) - 1 - 1).toNat = j - 1 - 1 := by omega
noncomputable abbrev s_slices_IsSortedFunc_I_Book_I_Book : Spec (List Bk) where
  args := fun xs => [.sl 8 (bks xs), .val (.func (.func 48) #[] #[])]
  pre := fun xs => xs.length ≤ 1048576
  res := fun xs => .val (.bool (ask (srtP xs)))

set_option maxRecDepth 20000 in
set_option maxHeartbeats 1000000 in
theorem ok_slices_IsSortedFunc_I_Book_I_Book : FnOk Pr 70 s_slices_IsSortedFunc_I_Book_I_Book := by
 refine fn_ok 2 0 T0_ok Go.Proofs.Tryz.func70 rfl (enters_of Go.Proofs.Tryz.func70 rfl rfl) (fun _ => rfl) (fun _ => rfl) (fun _ => rfl) ?_
 rintro xs hl C hP hN hm hG
 change awp C _ _ ⟨[(0, .sl 8 (bks xs)), (1, .val (.func (.func 48) #[] #[]))], [], 0⟩
 have hl : xs.length ≤ 1048576 := hl
 have xn1 := And.intro @tn1 (@tn2)
 refine awp_seq ?_
 refine r1 T0_ok hP hm hN ?_
 refine g1 ?_
 refine awp_seq ?_
 refine awp_seq ?_
 refine r1 T0_ok hP hm hN ?_
 iterate 4 refine g1 ?_
 refine awp_block ?_
 refine awp_loop (fun n st => ∃ p : Nat, p ≤ xs.length ∧ (∀ j, p ≤ j → j < xs.length → outBad xs j = false) ∧ n = p ∧ st = ⟨[(5, .val (.int .i64 ((p : Int) - 1))), (0, .sl 8 (bks xs)), (1, .val (.func (.func 48) #[] #[]))], [], 0⟩) xs.length ⟨_, weak_sl (sub_cons rfl (sub_cons rfl (sub_cons rfl (sub_nil)))), xs.length, Nat.le_refl _, fun j h1 h2 => by omega, rfl, rfl⟩ ?_
 rintro n st ⟨p, hpl, hall, hnp, rfl⟩
 refine awp_seq ?_
 refine awp_seq ?_
 refine r1 T0_ok hP hm hN ?_
 iterate 2 refine g1 ?_
 refine awp_cond rfl (fun hc0 => ?_) (fun hc0 => ?_)
 ·
  have hp2 : 2 ≤ p := by simp only [decide_eq_true_eq] at hc0; omega
  have hga := bks_get xs (p - 1) (by omega)
  have hgb := bks_get xs (p - 1 - 1) (by omega)
  refine awp_skip ?_
  refine awp_seq ?_
  refine awp_block ?_
  refine awp_seq ?_
  refine awp_draw T0_ok hP hm hN Pr_mix [0, 1, 2, 3, 4, 5, 6, 7, 8, 9, 10, 11] [10] _ rfl (by rfl) ?_
  iterate 10 refine d1 T0_ok ?_
  refine dp1 ?_ (call1 ok_I_compare (xs.getD (p - 1) bk0, xs.getD (p - 1 - 1) bk0) [])
  refine d1 T0_ok ?_
  refine dreg_nil ?_
  refine awp_cond rfl (fun hc1 => ?_) (fun hc1 => ?_)
  ·
   have hno : outBad xs (p - 1) = true := hc1
   refine awp_seq ?_
   refine r1 T0_ok hP hm hN ?_
   refine g1 ?_
   refine awp_ret ?_
   refine fin_mk [] rfl rfl ?_ trivial (by decide)
   show D.val (.bool (ask (srtP xs))) = _
   rw [ask_false (show ¬ srtP xs from fun h => by have := h (p - 1) (by omega) (by omega); rw [hno] at this; cases this)]
   rfl
  ·
   have hno : outBad xs (p - 1) = false := hc1
   have hall2 : ∀ j, p - 1 ≤ j → j < xs.length → outBad xs j = false := fun j h1 h2 => by
     by_cases e : j = p - 1
     · rw [e]; exact hno
     · exact hall j (by omega) h2
   refine awp_skip ?_
   refine r1 T0_ok hP hm hN ?_
   iterate 3 refine g1 ?_
   exact ⟨p - 1, _, by omega, (by rw [show ((p - 1 : Nat) : Int) - 1 = (p : Int) - 1 - 1 by omega]; exact weak_sl (sub_cons rfl (sub_cons rfl (sub_cons rfl (sub_nil))))), p - 1, by omega, hall2, rfl, rfl⟩
 ·
  have hp2 : p ≤ 1 := by simp only [decide_eq_false_iff_not] at hc0; omega
  refine awp_exit ?_
  repeat refine thenA_exit ?_
  refine blockA_hit ?_
  refine awp_seq ?_
  refine r1 T0_ok hP hm hN ?_
  refine g1 ?_
  refine awp_ret ?_
  refine fin_mk [] rfl rfl ?_ trivial (by decide)
  show D.val (.bool (ask (srtP xs))) = _
  rw [ask_true (show srtP xs from fun j h1 h2 => hall j (by omega) h2)]
  rfl

noncomputable abbrev s_I_isSorted : Spec (List Bk) where
  args := fun xs => [.sl 8 (bks xs)]
  pre := fun xs => xs.length ≤ 1048576
  res := fun xs => .val (.bool (ask (srtP xs)))

set_option maxRecDepth 20000 in
set_option maxHeartbeats 1000000 in
theorem ok_I_isSorted : FnOk Pr 41 s_I_isSorted := by
 refine fn_ok 1 0 T0_ok Go.Proofs.Tryz.func41 rfl (enters_of Go.Proofs.Tryz.func41 rfl rfl) (fun _ => rfl) (fun _ => rfl) (fun _ => rfl) ?_
 rintro xs hl C hP hN hm hG
 change awp C _ _ ⟨[(0, .sl 8 (bks xs))], [], 0⟩
 have hl : xs.length ≤ 1048576 := hl
 refine awp_seq ?_
 refine r1 T0_ok hP hm hN ?_
 refine g1 ?_
 refine awp_seq ?_
 refine r1 T0_ok hP hm hN ?_
 refine g1 ?_
 refine gc1 ?_ (call1 ok_slices_IsSortedFunc_I_Book_I_Book _ [] (hpre := by (try dsimp only); exact hl))
 refine g1 ?_
 refine awp_ret ?_
 refine fin_mk [] rfl rfl ?_ trivial (by decide)
 rfl




noncomputable abbrev s_I_IsSorted : Spec (List Bk) where
  args := fun xs => [.sl 8 (bks xs)]
  pre := fun xs => validBs xs = true ∧ xs.length ≤ 1048576
  res := fun xs => .tup [.val (.bool (ask (srtP xs))), .val (.int .i64 0)]

set_option maxRecDepth 20000 in
set_option maxHeartbeats 1000000 in
theorem ok_I_IsSorted : FnOk Pr 17 s_I_IsSorted := by
 refine fn_ok 1 0 T0_ok Go.Proofs.Tryz.func17 rfl (enters_of Go.Proofs.Tryz.func17 rfl rfl) (fun _ => rfl) (fun _ => rfl) (fun _ => rfl) ?_
 rintro xs ⟨hval, hl⟩ C hP hN hm hG
 change awp C _ _ ⟨[(0, .sl 8 (bks xs))], [], 0⟩
 refine awp_seq ?_
 refine r1 T0_ok hP hm hN ?_
 iterate 2 refine g1 ?_
 refine awp_seq ?_
 refine awp_seq ?_
 refine r1 T0_ok hP hm hN ?_
 refine g1 ?_
 refine gc1 ?_ (call1 ok_I_ValidBooks _ [] (hpre := by (try dsimp only); omega))
 refine g1 ?_
 refine awp_cond rfl (fun hc0 => ?_) (fun hc0 => ?_)
 ·
  exact absurd hc0 (by rw [hval]; decide)
 ·
  refine awp_skip ?_
  refine awp_seq ?_
  refine r1 T0_ok hP hm hN ?_
  refine g1 ?_
  refine gc1 ?_ (call1 ok_I_isSorted xs [] (hpre := by (try dsimp only); omega))
  iterate 2 refine g1 ?_
  refine awp_ret ?_
  refine fin_mk [] rfl rfl ?_ trivial (by decide)
  rfl
end Go.Proofs.YtpdkhlpmiblflaaGreat.Abs

