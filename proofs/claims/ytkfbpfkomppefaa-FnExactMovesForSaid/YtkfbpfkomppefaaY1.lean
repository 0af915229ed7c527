import Derived.Test.YtkfbpfkomppefaaZ3
set_option linter.unusedVariables false
set_option linter.unusedSimpArgs false
namespace Go.Proofs.Ytkfbpfkomppefaa.Abs
open Go Go.RowKit
abbrev Blk := Int × Int × Int
abbrev isBlk (b : Blk) : Prop := isI16 b.1 ∧ isI16 b.2.1 ∧ isI16 b.2.2
abbrev blkD (b : Blk) : D := .val (.agg #[.int .i16 b.1, .int .i16 b.2.1, .int .i16 b.2.2])
def blkBad (n : Nat) (b : Blk) : Bool := ((decide (b.2.1 < 1) || decide (b.1 < 0)) || decide (b.1 + b.2.1 > n)) || !inI b.2.2 0 (n - b.2.1)
def carB (xs : List Bk) (b : Blk) : List Bk := carried xs b.1.toNat b.2.1.toNat b.2.2.toNat
theorem carB_len {xs : List Bk} {b : Blk} (h : blkBad xs.length b = false) : (carB xs b).length = xs.length := by
  unfold blkBad at h
  simp only [Bool.or_eq_false_iff, decide_eq_false_iff_not, Bool.not_eq_false'] at h
  obtain ⟨⟨⟨h1, h2⟩, h3⟩, h4⟩ := h
  have h4 := inI_iff.1 h4
  simp only [carB, carried, List.length_append, List.length_take, List.length_drop]
  omega
def bmR (xs : List Bk) (b : Blk) : List Bk × Bool := if blkBad xs.length b then ([], false) else (carB xs b, true)
theorem blk_nat {n : Nat} {b1 b2 b3 : Int} (h : (((decide (b2 < 1) || decide (b1 < 0)) || decide (b1 + b2 > n)) || !inI b3 0 (n - b2)) = false) : ∃ f c t : Nat, b1 = f ∧ b2 = c ∧ b3 = t ∧ 1 ≤ c ∧ f + c ≤ n ∧ t ≤ n - c := by
  simp only [Bool.or_eq_false_iff, decide_eq_false_iff_not, Bool.not_eq_false'] at h
  obtain ⟨⟨⟨h1, h2⟩, h3⟩, h4⟩ := h
  have h4 := inI_iff.1 h4
  exact ⟨b1.toNat, b2.toNat, b3.toNat, by omega, by omega, by omega, by omega, by omega, by omega⟩
theorem natadd' (a b : Nat) : (a : Int) + (b : Int) = ((a + b : Nat) : Int) := rfl

noncomputable abbrev s_I_within_int : Spec (Int × Int × Int) where
  args := fun x => [.val (.int .i64 x.1), .val (.int .i64 x.2.1), .val (.int .i64 x.2.2)]
  res := fun x => .val (.bool (inI x.1 x.2.1 x.2.2))

set_option maxRecDepth 20000 in
set_option maxHeartbeats 1000000 in
theorem ok_I_within_int : FnOk Pr 59 s_I_within_int := by
  refine fn_ok 3 0 T0_ok Go.Proofs.Try.func59 rfl (enters_of Go.Proofs.Try.func59 rfl rfl) (fun _ => rfl) (fun _ => rfl) (fun _ => rfl) ?_
  rintro ⟨n, lo, hi⟩ - C hP hN hm hG
  change awp C _ _ ⟨[(0, .val (.int .i64 n)), (1, .val (.int .i64 lo)), (2, .val (.int .i64 hi))], [], 0⟩
  refine awp_seq ?_
  refine r1 T0_ok hP hm hN ?_
  refine g1 ?_
  refine awp_seq ?_
  refine r1 T0_ok hP hm hN ?_
  refine g1 ?_
  refine g1 ?_
  refine g1 ?_
  refine g1 ?_
  refine gg1 ?_
  refine gg1 ?_
  refine gg1 ?_
  refine g1 ?_
  refine g1 ?_
  refine awp_ret ?_
  refine fin_mk [] rfl rfl ?_ trivial (by decide)
  rfl

noncomputable abbrev s_I_blockMoved_I_Book : Spec (List Bk × Blk) where
  args := fun x => [.sl 8 (bks x.1), blkD x.2]
  pre := fun x => x.1.length ≤ 1048576 ∧ isBlk x.2
  new := fun x => [⟨60, 8, false, bks (bmR x.1 x.2).1⟩]
  res := fun x => .tup [.own 0, .val (.bool (bmR x.1 x.2).2)]

set_option maxRecDepth 20000 in
set_option maxHeartbeats 4000000 in
theorem ok_I_blockMoved_I_Book : FnOk Pr 35 s_I_blockMoved_I_Book := by
  refine fn_ok 2 0 T0_ok Go.Proofs.Try.func35 rfl (enters_of Go.Proofs.Try.func35 rfl rfl) (fun _ => rfl) (fun _ => rfl) (fun _ => rfl) ?_
  rintro ⟨xs, b1, b2, b3⟩ ⟨hl, hb1, hb2, hb3⟩ C hP hN hm hG
  change awp C _ _ ⟨[(0, .sl 8 (bks xs)), (1, blkD (b1, b2, b3))], [], 0⟩
  simp only at hl hb1 hb2 hb3
  refine awp_seq ?_
  refine r1 T0_ok hP hm hN ?_
  refine g1 ?_
  refine g1 ?_
  refine g1 ?_
  refine awp_seq ?_
  refine awp_draw T0_ok hP hm hN Pr_mix [0, 1, 2, 3, 4, 5, 6, 7, 8, 9, 10, 11] [] _ rfl (by rfl) ?_
  refine d1 T0_ok ?_
  refine d1 T0_ok ?_
  refine d1 T0_ok ?_
  refine d1 T0_ok ?_
  refine d1 T0_ok ?_
  refine d1 T0_ok ?_
  refine d1 T0_ok ?_
  refine d1 T0_ok ?_
  refine d1 T0_ok ?_
  refine d1 T0_ok ?_
  refine d1 T0_ok ?_
  refine d1 T0_ok ?_
  refine dreg_nil ?_
  refine awp_seq ?_
  refine awp_seq ?_
  refine r1 T0_ok hP hm hN ?_
  refine g1 ?_
  refine g1 ?_
  refine g1 ?_
  refine gg1 ?_
  refine gg1 ?_
  refine g1 ?_
  refine g1 ?_
  refine gg1 ?_
  refine gg1 ?_
  refine gg1 ?_
  refine gg1 ?_
  refine gg1 ?_
  refine gg1 ?_
  refine g1 ?_
  refine g1 ?_
  refine gg1 ?_
  refine gg1 ?_
  refine gg1 ?_
  refine gg1 ?_
  refine gg1 ?_
  refine ggc1 ?_ (hs := by intro hb; simp +decide only [hb, gd_tt, gd_ff, beq_self_eq_true, Bool.true_and, beq_true]; exact ⟨rfl, _, call1 ok_I_within_int (_, _, _) [], rfl, rfl, rfl⟩)
  refine gg1 ?_
  refine g1 ?_
  refine awp_cond rfl (fun hc0 => ?_) (fun hc0 => ?_)
  · skip
    have hr : bmR xs (b1, b2, b3) = ([], false) := by rw [bmR, if_pos (show blkBad xs.length (b1, b2, b3) = true from hc0)]
    refine awp_seq ?_
    refine r1 T0_ok hP hm hN ?_
    refine g1 ?_
    refine g1 ?_
    refine awp_weak (weak_nil 4 60 8 rfl) ?_
    refine awp_ret ?_
    refine fin_mk [1] rfl rfl ?_ (by simp only [hr]; first | exact objs_cons rfl rfl rfl rfl rfl (.inl rfl) objs_nil | (rw [hcar]; exact objs_cons rfl rfl rfl rfl rfl (.inl rfl) objs_nil)) (by decide)
    show D.tup [_, .val (.bool (bmR xs (b1, b2, b3)).2)] = _
    rw [hr]
    rfl
  · skip
    have hr : bmR xs (b1, b2, b3) = (carB xs (b1, b2, b3), true) := by rw [bmR, if_neg (by rw [show blkBad xs.length (b1, b2, b3) = false from hc0]; simp)]
    obtain ⟨f, c, t, rfl, rfl, rfl, hc1, hfc, htc⟩ := blk_nat hc0
    have hcar : carB xs ((f : Int), (c : Int), (t : Int)) = (xs.take f ++ xs.drop (f + c)).take t ++ (xs.drop f).take c ++ (xs.take f ++ xs.drop (f + c)).drop t := rfl
    have hfe : f + c - f = c := by omega
    have hrl : (xs.take f ++ xs.drop (f + c)).length = xs.length - c := by simp only [List.length_append, List.length_take, List.length_drop]; omega
    refine awp_skip ?_
    refine awp_seq ?_
    refine r1 T0_ok hP hm hN ?_
    refine g1 ?_
    refine g1 ?_
    refine g1 ?_
    refine g1 ?_
    refine g1 ?_ (hst := by simp +decide (disch := omega) only [nrm, lk_nrm, dc_nrm, mk_nrm, mf_nrm, ti_nrm, ls_nrm, mp_nrm, nb_nrm, hset, pick_and, pick_or, ↓reduceIte, Nat.reduceAdd, wI64, wI32, wI16, wI8, wU8, List.length_map, Int.toNat_natCast, natadd']; rfl)
    refine g1 ?_ (hpre := by exact ⟨rfl, by omega, by omega, by simp only [List.length_map]; omega⟩) (hst := by simp +decide (disch := omega) only [nrm, lk_nrm, dc_nrm, mk_nrm, mf_nrm, ti_nrm, ls_nrm, mp_nrm, nb_nrm, hset, pick_and, pick_or, ↓reduceIte, Nat.reduceAdd, wI64, wI32, wI16, wI8, wU8, List.length_map, Int.toNat_natCast, natadd', Int.toNat_natCast, ← List.map_drop, ← List.map_take, hfe]; rfl)
    refine gc1 ?_ (call1 ok_slices_Clone_I_Book_I_Book _ [] (hpre := by (try dsimp only); (simp only [List.length_take, List.length_drop]; omega)))
    refine g1 ?_
    refine awp_seq ?_
    refine r1 T0_ok hP hm hN ?_
    refine g1 ?_
    refine gc1 ?_ (call1 ok_slices_Clone_I_Book_I_Book _ [] (hpre := by (try dsimp only); omega))
    refine g1 ?_
    refine g1 ?_
    refine g1 ?_
    refine g1 ?_ (hst := by simp +decide (disch := omega) only [nrm, lk_nrm, dc_nrm, mk_nrm, mf_nrm, ti_nrm, ls_nrm, mp_nrm, nb_nrm, hset, pick_and, pick_or, ↓reduceIte, Nat.reduceAdd, wI64, wI32, wI16, wI8, wU8, List.length_map, Int.toNat_natCast, natadd']; rfl)
    refine gc1 ?_ (call1 ok_slices_Delete_I_Book_I_Book (xs, f, f + c) [2] (hpre := by (try dsimp only); exact ⟨by omega, by omega, by omega⟩) (hfo := by exact fm_cons (flat_bks _ _ _ _) fm_nil)) (hst := by simp +decide (disch := omega) only [nrm, lk_nrm, dc_nrm, mk_nrm, mf_nrm, ti_nrm, ls_nrm, mp_nrm, nb_nrm, hset, pick_and, pick_or, ↓reduceIte, Nat.reduceAdd, wI64, wI32, wI16, wI8, wU8, List.length_map, Int.toNat_natCast, hfe]; rfl)
    refine g1 ?_
    refine g1 ?_
    refine gc1 ?_ (call1 ok_slices_Insert_I_Book_I_Book (xs.take f ++ xs.drop (f + c), List.replicate c bk0, (xs.drop f).take c, t) [2, 1] (hargs := (by (try dsimp only); exact args_cons (arga_vw rfl rfl (by rw [hrl]; omega)) (args_cons arga_val (args_cons (arga_own rfl) args_nil)))) (hpre := by (try dsimp only); exact ⟨by simp only [List.length_take, List.length_drop]; omega, by simp only [List.length_replicate, List.length_take, List.length_drop]; omega, by omega, by simp only [List.length_take, List.length_drop]; omega⟩) (hobs := (by first | exact objs_cons rfl rfl rfl rfl rfl (.inl rfl) (objs_cons rfl rfl rfl rfl rfl (.inl rfl) objs_nil))) (hfo := by exact fm_cons (flat_bks _ _ _ _) (fm_cons (flat_bks _ _ _ _) fm_nil)))
    refine g1 ?_
    refine g1 ?_
    refine awp_weak (weak_vw_own (t := 4) rfl rfl (by simp only [List.length_map, List.length_append, List.length_take, List.length_drop]; omega) (by simp only [List.length_take, List.length_drop]; omega)) ?_
    refine awp_ret ?_
    refine fin_mk [2] rfl rfl ?_ (by simp only [hr]; first | exact objs_cons rfl rfl rfl rfl rfl (.inl rfl) objs_nil | (rw [hcar]; exact objs_cons rfl rfl rfl rfl rfl (.inl rfl) objs_nil)) (by decide)
    show D.tup [_, .val (.bool (bmR xs ((f : Int), (c : Int), (t : Int))).2)] = _
    rw [hr]
    rfl
end Go.Proofs.Ytkfbpfkomppefaa.Abs
