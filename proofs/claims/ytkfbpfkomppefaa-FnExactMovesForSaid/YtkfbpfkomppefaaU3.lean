import Derived.Test.YtkfbpfkomppefaaU2
set_option linter.unusedVariables false
set_option linter.unusedSimpArgs false
namespace Go.Proofs.Ytkfbpfkomppefaa.Abs
open Go Go.RowKit
noncomputable abbrev s_I_MovesFor : Spec (List Bk) where
  args := fun xs => [.sl 8 (bks xs)]
  pre := fun xs => (∀ b ∈ xs, isBk b) ∧ xs.length ≤ 1048576
  new := fun xs => [⟨39, 2, false, mvs ((mvforR xs).1)⟩]
  res := fun xs => .tup [.own 0, .val (.int .i64 (mvforR xs).2)]

set_option maxRecDepth 20000 in
set_option maxHeartbeats 8000000 in
theorem ok_I_MovesFor : FnOk Pr 28 s_I_MovesFor := by
  refine fn_ok 1 0 T0_ok Go.Proofs.Try.func28 rfl (enters_of Go.Proofs.Try.func28 rfl rfl) (fun _ => rfl) (fun _ => rfl) (fun _ => rfl) ?_
  rintro xs ⟨hv, hl⟩ C hP hN hm hG
  change awp C _ _ ⟨[(0, .sl 8 (bks xs))], [], 0⟩
  refine awp_seq ?_
  refine r1 T0_ok hP hm hN ?_
  refine g1 ?_
  refine g1 ?_
  refine awp_seq ?_
  refine awp_seq ?_
  refine r1 T0_ok hP hm hN ?_
  refine g1 ?_
  refine gc1 ?_ (call1 ok_I_ValidBooks _ [] (hpre := by (try dsimp only); omega))
  refine g1 ?_
  refine awp_cond rfl (fun hc0 => ?_) (fun hc0 => ?_)
  · skip
    have hr : mvforR xs = ([], 1) := by rw [mvforR, if_pos hc0]
    refine awp_seq ?_
    refine r1 T0_ok hP hm hN ?_
    refine g1 ?_
    refine g1 ?_
    refine awp_weak (weak_nil 2 39 2 rfl) ?_
    refine awp_ret ?_
    refine fin_mk [0] rfl rfl ?_ (by first | (simp only [hr]; exact objs_cons rfl rfl rfl rfl rfl (.inl rfl) objs_nil) | (simp only [hr, hfin]; exact objs_cons rfl rfl rfl rfl rfl (.inl rfl) objs_nil)) (by decide)
    show D.tup [_, .val (.int .i64 (mvforR xs).2)] = _
    rw [hr]
    rfl
  · skip
    have h60 := valid60 hc0
    have hkl := keptL_len xs
    refine awp_skip ?_
    refine awp_seq ?_
    refine r1 T0_ok hP hm hN ?_
    refine g1 ?_
    refine gc1 ?_ (call1 ok_I_kept _ [] (hpre := by (try dsimp only); exact ⟨hv, hl⟩))
    refine g1 ?_
    refine awp_seq ?_
    refine r1 T0_ok hP hm hN ?_
    refine g1 ?_
    refine g1 ?_
    refine gc1 ?_ (call1 ok_I_upTo _ [] (hpre := by (try dsimp only); omega))
    refine g1 ?_
    refine awp_seq ?_
    refine r1 T0_ok hP hm hN ?_
    refine g1 ?_
    refine awp_seq ?_
    refine awp_seq ?_
    refine r1 T0_ok hP hm hN ?_
    refine g1 ?_
    refine g1 ?_
    refine g1 ?_
    refine awp_block ?_
    refine awp_loop (fun n st => ∃ (i : Nat) (s : List Int × List Int × List Mv), i ≤ xs.length ∧ s = mvSt xs i ∧ n = xs.length - i ∧ st = ⟨[(23, .val (.int .i64 ((i : Nat) : Int))), (22, .val (.int .i64 ((xs.length : Nat) : Int))), (21, .sl 8 (bks xs)), (4, .own 0), (5, .own 1), (6, .own 2), (0, .sl 8 (bks xs))], [(2, ⟨39, 2, false, mvs (s.2.2)⟩), (1, ⟨3, 1, false, i64s (s.1)⟩), (0, ⟨3, 1, false, i64s (s.2.1)⟩)], 3⟩) xs.length ⟨_, Weak.trans (weak_nil 6 39 2 rfl) (weak_sl (sub_cons rfl (sub_cons rfl (sub_cons rfl (sub_cons rfl (sub_cons rfl (sub_cons rfl (sub_cons rfl (sub_nil))))))))), 0, (iotaL xs.length, keptL xs, []), by omega, rfl, rfl, rfl⟩ ?_
    rintro n st ⟨i, s, hi, hs, hn, rfl⟩
    have hok := mvS_ok (okU xs) (keptL_len xs) i hi
    rw [show mvS (okU xs) xs.length (keptL xs) i = s from hs.symm] at hok
    have hsl := hok.len
    have hol := hok.ol
    have hml := hok.ml
    refine awp_seq ?_
    refine r1 T0_ok hP hm hN ?_
    refine g1 ?_
    refine awp_seq ?_
    refine awp_cond rfl (fun hc1 => ?_) (fun hc1 => ?_)
    · skip
      have hlti : i < xs.length := by simpa using hc1
      have hgx := bks_get xs i hlti
      refine awp_skip ?_
      refine awp_seq ?_
      refine awp_block ?_
      refine awp_seq ?_
      refine r1 T0_ok hP hm hN ?_
      refine g1 ?_
      refine g1 ?_
      refine g1 ?_
      refine g1 ?_
      refine g1 ?_
      refine g1 ?_
      refine awp_seq ?_
      refine awp_seq ?_
      refine r1 T0_ok hP hm hN ?_
      refine g1 ?_
      refine g1 ?_
      refine gc1 ?_ (call1 ok_slices_Contains_int_int (_, _) [] (hpre := by (try dsimp only); (try simp only [List.length_map]); omega))
      refine awp_cond rfl (fun hc2 => ?_) (fun hc2 => ?_)
      · skip
        have hyes : hasB s.2.1 (i : Int) = true := hc2
        refine awp_exit ?_
        repeat refine thenA_exit ?_
        refine blockA_hit ?_
        refine r1 T0_ok hP hm hN ?_
        refine g1 ?_
        refine g1 ?_
        first
          | exact ⟨_, _, by omega, Weak.trans (weak_drop 3) (Weak.trans (weak_nx (nx' := 3) (by omega) (by rfl)) (weak_sl (sub_cons rfl (sub_cons rfl (sub_cons rfl (sub_cons rfl (sub_cons rfl (sub_cons rfl (sub_cons rfl (sub_nil)))))))))), i + 1, s, by omega, mvS_same hs hyes, rfl, rfl⟩
          | exact ⟨_, _, by omega, (by dsimp only; rw [mvs_app, i64s_app3 s.2.1]; exact Weak.trans (weak_vw_own (t := 5) (h := 1) (n := (restL s.1 (i : Int)).length + [(i : Int)].length) (ob := ⟨3, 1, false, i64s ((restL s.1 (i : Int)).take (toF (okU xs s.2.1 i) (restL s.1 (i : Int)) (restL s.1 (i : Int)).length) ++ [(i : Int)] ++ (restL s.1 (i : Int)).drop (toF (okU xs s.2.1 i) (restL s.1 (i : Int)) (restL s.1 (i : Int)).length))⟩) rfl rfl (by show (restL s.1 (i : Int)).length + [(i : Int)].length = (List.map _ _).length; simp only [List.length_map, List.length_append, List.length_take, List.length_drop, List.length_cons, List.length_nil]; omega) (by show 0 < (restL s.1 (i : Int)).length + [(i : Int)].length; simp only [List.length_cons, List.length_nil]; omega)) (Weak.trans (weak_drop 3) (Weak.trans (weak_drop 4) (Weak.trans (weak_drop 5) (Weak.trans (weak_drop 6) (Weak.trans (weak_nx (nx' := 3) (by omega) (by rfl)) (weak_sl (sub_cons rfl (sub_cons rfl (sub_cons rfl (sub_cons rfl (sub_cons rfl (sub_cons rfl (sub_cons rfl (sub_nil))))))))))))))), i + 1, _, by omega, mvS_next hs hno, rfl, rfl⟩
      · skip
        have hno : hasB s.2.1 (i : Int) = false := hc2
        have hmi := hok.mem hlti
        have hpl := posI_lt hmi
        have hpg := posI_get hmi
        have hrl := rest_len hmi
        have hrr := fun y hy => hok.rest_rng hmi (y := y) hy
        have htl := toF_le (okU xs s.2.1 i) (restL s.1 (i : Int)) (restL s.1 (i : Int)).length
        have hidx : idxI s.1 (i : Int) = ((posI s.1 (i : Int) : Nat) : Int) := idxI_mem hmi
        have hdel : List.replicate (posI s.1 (i : Int) + 1 - posI s.1 (i : Int)) (0 : Int) = [0] := by rw [Nat.add_sub_cancel_left]; rfl
        have hrst : s.1.take (posI s.1 (i : Int)) ++ s.1.drop (posI s.1 (i : Int) + 1) = restL s.1 (i : Int) := rfl
        have hvl : posI s.1 (i : Int) + (s.1.length - (posI s.1 (i : Int) + 1)) = (restL s.1 (i : Int)).length := by omega
        have hrz : ((restL s.1 (i : Int)) ++ [(0 : Int)]).length = (restL s.1 (i : Int)).length + 1 := by simp
        refine awp_skip ?_
        refine awp_seq ?_
        refine r1 T0_ok hP hm hN ?_
        refine g1 ?_
        refine g1 ?_
        refine gc1 ?_ (call1 ok_slices_Index_int_int (_, _) [] (hpre := by (try dsimp only); (try simp only [List.length_map]); omega)) (hst := by simp +decide (disch := omega) only [nrm, lk_nrm, dc_nrm, mk_nrm, mf_nrm, ti_nrm, ls_nrm, mp_nrm, nb_nrm, hset, pick_and, pick_or, ↓reduceIte, Nat.reduceAdd, wI64, wI32, wI16, wI8, wU8, List.length_map, Int.toNat_natCast, hidx]; rfl)
        refine g1 ?_
        refine awp_seq ?_
        refine r1 T0_ok hP hm hN ?_
        refine g1 ?_
        refine g1 ?_
        refine g1 ?_
        refine g1 ?_ (hst := by simp +decide (disch := omega) only [nrm, lk_nrm, dc_nrm, mk_nrm, mf_nrm, ti_nrm, ls_nrm, mp_nrm, nb_nrm, hset, pick_and, pick_or, ↓reduceIte, Nat.reduceAdd, wI64, wI32, wI16, wI8, wU8, List.length_map, Int.toNat_natCast, castadd1]; rfl)
        refine gc1 ?_ (call1 ok_slices_Delete_int_int (s.1, posI s.1 (i : Int), posI s.1 (i : Int) + 1) [1] (hpre := by (try dsimp only); exact ⟨by omega, by omega, by omega⟩) (hfo := by exact fm_cons (flat_i64s _ _ _ _) fm_nil)) (hst := by simp +decide (disch := omega) only [nrm, lk_nrm, dc_nrm, mk_nrm, mf_nrm, ti_nrm, ls_nrm, mp_nrm, nb_nrm, hset, pick_and, pick_or, ↓reduceIte, Nat.reduceAdd, wI64, wI32, wI16, wI8, wU8, List.length_map, Int.toNat_natCast, hdel, hrst, hvl]; rfl)
        refine g1 ?_
        refine awp_seq ?_
        refine r1 T0_ok hP hm hN ?_
        refine g1 ?_
        refine awp_seq ?_
        refine awp_seq ?_
        refine r1 T0_ok hP hm hN ?_
        refine g1 ?_
        refine g1 ?_
        refine g1 ?_
        refine awp_block ?_
        refine awp_loop (fun n st => ∃ k : Nat, k ≤ (restL s.1 (i : Int)).length ∧ n = (restL s.1 (i : Int)).length - k ∧ st = ⟨[(41, .val (.int .i64 ((k : Nat) : Int))), (40, .val (.int .i64 (((restL s.1 (i : Int)).length : Nat) : Int))), (39, .vw 1 0 (restL s.1 (i : Int)).length), (10, .val (.int .i64 (((toF (okU xs s.2.1 i) (restL s.1 (i : Int)) k) : Nat) : Int))), (9, .val (.int .i64 ((posI s.1 (i : Int) : Nat) : Int))), (8, .ptr 3 0 0), (7, .val (.int .i64 ((i : Nat) : Int))), (5, .vw 1 0 (restL s.1 (i : Int)).length), (23, .val (.int .i64 ((i : Nat) : Int))), (22, .val (.int .i64 ((xs.length : Nat) : Int))), (21, .sl 8 (bks xs)), (4, .own 0), (6, .own 2), (0, .sl 8 (bks xs))], [(3, ⟨60, 8, true, [bkRow (xs.getD i bk0)]⟩), (2, ⟨39, 2, false, mvs (s.2.2)⟩), (1, ⟨3, 1, false, i64s ((restL s.1 (i : Int)) ++ [0])⟩), (0, ⟨3, 1, false, i64s (s.2.1)⟩)], 4⟩) ((restL s.1 (i : Int)).length) ⟨_, weak_sl (sub_cons rfl (sub_cons rfl (sub_cons rfl (sub_cons rfl (sub_cons rfl (sub_cons rfl (sub_cons rfl (sub_cons rfl (sub_cons rfl (sub_cons rfl (sub_cons rfl (sub_cons rfl (sub_cons rfl (sub_cons rfl (sub_nil))))))))))))))), 0, by omega, rfl, rfl⟩ ?_
        rintro n st ⟨k, hik, hnk, rfl⟩
        have htk0 := toF_le (okU xs s.2.1 i) (restL s.1 (i : Int)) k
        refine awp_seq ?_
        refine r1 T0_ok hP hm hN ?_
        refine g1 ?_
        refine awp_seq ?_
        refine awp_cond rfl (fun hc3 => ?_) (fun hc3 => ?_)
        · skip
          have hltk : k < (restL s.1 (i : Int)).length := by simpa using hc3
          have hgk : (i64s ((restL s.1 (i : Int)) ++ [0]))[k]? = some [.val (.int .i64 ((restL s.1 (i : Int)).getD k 0))] := by rw [i64s_get _ _ (by rw [hrz]; omega), getD_snoc hltk]
          have hyr := hrr _ (getD_mem3 hltk)
          have hgy := bks_get xs ((restL s.1 (i : Int)).getD k 0).toNat (by omega)
          have hgx := bks_get xs i hlti
          refine awp_skip ?_
          refine awp_seq ?_
          refine awp_block ?_
          refine awp_seq ?_
          refine r1 T0_ok hP hm hN ?_
          refine g1 ?_
          refine g1 ?_ (hst := by simp +decide (disch := omega) only [nrm, lk_nrm, dc_nrm, mk_nrm, mf_nrm, ti_nrm, ls_nrm, mp_nrm, nb_nrm, hset, pick_and, pick_or, ↓reduceIte, Nat.reduceAdd, wI64, wI32, wI16, wI8, wU8, List.length_map, Int.toNat_natCast, Nat.zero_add]; rfl)
          refine g1 ?_ (hst := by simp +decide (disch := omega) only [nrm, lk_nrm, dc_nrm, mk_nrm, mf_nrm, ti_nrm, ls_nrm, mp_nrm, nb_nrm, hset, pick_and, pick_or, ↓reduceIte, Nat.reduceAdd, wI64, wI32, wI16, wI8, wU8, List.length_map, Int.toNat_natCast, hgk]; rfl)
          refine g1 ?_
          refine g1 ?_
          refine awp_seq ?_
          refine awp_draw T0_ok hP hm hN Pr_mix [0, 1, 2, 3, 4, 5, 6, 7, 8, 9, 10, 11] [2, 9] _ rfl (by rfl) ?_
          refine d1 T0_ok ?_
          refine d1 T0_ok ?_
          refine dp1 ?_ (call1 ok_slices_Contains_int_int (_, _) [] (hpre := by (try dsimp only); (try simp only [List.length_map]); omega))
          refine d1 T0_ok ?_
          refine dg1 T0_ok ?_
          refine dg1 T0_ok ?_
          refine dg1 T0_ok ?_
          refine dg1 T0_ok ?_
          refine dg1 T0_ok ?_
          refine dgp1 ?_ (hr := by intro hb; simp +decide only [hb, gd_tt, gd_ff, beq_self_eq_true, Bool.true_and, beq_true]; exact ⟨_, call1 ok_I_compare (xs.getD ((restL s.1 (i : Int)).getD k 0).toNat bk0, xs.getD i bk0) [], rfl, rfl, rfl⟩)
          refine dg1 T0_ok ?_
          refine d1 T0_ok ?_
          refine dreg_nil ?_
          refine awp_cond rfl (fun hc4 => ?_) (fun hc4 => ?_)
          · skip
            have htk : toF (okU xs s.2.1 i) (restL s.1 (i : Int)) (k + 1) = k + 1 := by rw [toF, if_pos (show okU xs s.2.1 i ((restL s.1 (i : Int)).getD k 0) = true from hc4)]
            refine r1 T0_ok hP hm hN ?_
            refine g1 ?_
            refine g1 ?_ (hst := by simp +decide (disch := omega) only [nrm, lk_nrm, dc_nrm, mk_nrm, mf_nrm, ti_nrm, ls_nrm, mp_nrm, nb_nrm, hset, pick_and, pick_or, ↓reduceIte, Nat.reduceAdd, wI64, wI32, wI16, wI8, wU8, List.length_map, Int.toNat_natCast, castadd1]; rfl)
            refine g1 ?_
            refine r1 T0_ok hP hm hN ?_
            refine g1 ?_
            refine g1 ?_
            refine ⟨(restL s.1 (i : Int)).length - (k + 1), _, by omega, (by rw [htk]; exact weak_sl (sub_cons rfl (sub_cons rfl (sub_cons rfl (sub_cons rfl (sub_cons rfl (sub_cons rfl (sub_cons rfl (sub_cons rfl (sub_cons rfl (sub_cons rfl (sub_cons rfl (sub_cons rfl (sub_cons rfl (sub_cons rfl (sub_nil)))))))))))))))), k + 1, by omega, rfl, rfl⟩
          · skip
            have htk : toF (okU xs s.2.1 i) (restL s.1 (i : Int)) (k + 1) = toF (okU xs s.2.1 i) (restL s.1 (i : Int)) k := by rw [toF, if_neg (by rw [show okU xs s.2.1 i ((restL s.1 (i : Int)).getD k 0) = false from hc4]; simp)]
            refine awp_skip ?_
            refine r1 T0_ok hP hm hN ?_
            refine g1 ?_
            refine g1 ?_
            refine ⟨(restL s.1 (i : Int)).length - (k + 1), _, by omega, (by rw [htk]; exact weak_sl (sub_cons rfl (sub_cons rfl (sub_cons rfl (sub_cons rfl (sub_cons rfl (sub_cons rfl (sub_cons rfl (sub_cons rfl (sub_cons rfl (sub_cons rfl (sub_cons rfl (sub_cons rfl (sub_cons rfl (sub_cons rfl (sub_nil)))))))))))))))), k + 1, by omega, rfl, rfl⟩
        · skip
          have hgek : ¬ k < (restL s.1 (i : Int)).length := by simpa using hc3
          obtain rfl : k = (restL s.1 (i : Int)).length := by omega
          refine awp_exit ?_
          repeat refine thenA_exit ?_
          refine blockA_hit ?_
          refine awp_seq ?_
          refine r1 T0_ok hP hm hN ?_
          refine g1 ?_
          refine g1 ?_
          refine g1 ?_
          refine g1 ?_
          refine gc1 ?_ (call1 ok_slices_Insert_int_int ((restL s.1 (i : Int)), [0], [(i : Int)], (toF (okU xs s.2.1 i) (restL s.1 (i : Int)) (restL s.1 (i : Int)).length)) [1, 4] (hargs := (by (try dsimp only); exact args_cons (arga_vw rfl rfl rfl) (args_cons arga_val (args_cons (arga_own rfl) args_nil)))) (hpre := by (try dsimp only); exact ⟨by simp, rfl, htl, by simp only [List.length_cons, List.length_nil]; omega⟩) (hobs := (by first | exact objs_cons rfl rfl rfl rfl rfl (.inl rfl) (objs_cons rfl rfl rfl rfl rfl (.inl rfl) objs_nil))) (hfo := by exact fm_cons (flat_i64s _ _ _ _) (fm_cons (flat_i64s _ _ _ _) fm_nil)))
          refine g1 ?_
          refine awp_seq ?_
          refine r1 T0_ok hP hm hN ?_
          refine g1 ?_
          refine g1 ?_
          refine g1 ?_
          refine ga1 ?_
          refine g1 ?_
          refine r1 T0_ok hP hm hN ?_
          refine g1 ?_
          refine g1 ?_
          refine g1 ?_
          refine g1 ?_
          refine g1 ?_
          refine g1 ?_
          refine g1 ?_
          refine ga1 ?_
          refine g1 ?_
          refine r1 T0_ok hP hm hN ?_
          refine g1 ?_
          refine g1 ?_
          first
            | exact ⟨_, _, by omega, Weak.trans (weak_drop 3) (Weak.trans (weak_nx (nx' := 3) (by omega) (by rfl)) (weak_sl (sub_cons rfl (sub_cons rfl (sub_cons rfl (sub_cons rfl (sub_cons rfl (sub_cons rfl (sub_cons rfl (sub_nil)))))))))), i + 1, s, by omega, mvS_same hs hyes, rfl, rfl⟩
            | exact ⟨_, _, by omega, (by dsimp only; rw [mvs_app, i64s_app3 s.2.1]; exact Weak.trans (weak_vw_own (t := 5) (h := 1) (n := (restL s.1 (i : Int)).length + [(i : Int)].length) (ob := ⟨3, 1, false, i64s ((restL s.1 (i : Int)).take (toF (okU xs s.2.1 i) (restL s.1 (i : Int)) (restL s.1 (i : Int)).length) ++ [(i : Int)] ++ (restL s.1 (i : Int)).drop (toF (okU xs s.2.1 i) (restL s.1 (i : Int)) (restL s.1 (i : Int)).length))⟩) rfl rfl (by show (restL s.1 (i : Int)).length + [(i : Int)].length = (List.map _ _).length; simp only [List.length_map, List.length_append, List.length_take, List.length_drop, List.length_cons, List.length_nil]; omega) (by show 0 < (restL s.1 (i : Int)).length + [(i : Int)].length; simp only [List.length_cons, List.length_nil]; omega)) (Weak.trans (weak_drop 3) (Weak.trans (weak_drop 4) (Weak.trans (weak_drop 5) (Weak.trans (weak_drop 6) (Weak.trans (weak_nx (nx' := 3) (by omega) (by rfl)) (weak_sl (sub_cons rfl (sub_cons rfl (sub_cons rfl (sub_cons rfl (sub_cons rfl (sub_cons rfl (sub_cons rfl (sub_nil))))))))))))))), i + 1, _, by omega, mvS_next hs hno, rfl, rfl⟩
    · skip
      have hgei : ¬ i < xs.length := by simpa using hc1
      obtain rfl : i = xs.length := by omega
      have hfin : mvforL xs = s.2.2 := by rw [mvforL, ← hs]
      have hr : mvforR xs = (mvforL xs, 0) := by rw [mvforR, if_neg (by rw [hc0]; simp)]
      refine awp_exit ?_
      repeat refine thenA_exit ?_
      refine blockA_hit ?_
      refine awp_seq ?_
      refine r1 T0_ok hP hm hN ?_
      refine g1 ?_
      refine g1 ?_
      refine g1 ?_
      refine awp_ret ?_
      refine fin_mk [2] rfl rfl ?_ (by first | (simp only [hr]; exact objs_cons rfl rfl rfl rfl rfl (.inl rfl) objs_nil) | (simp only [hr, hfin]; exact objs_cons rfl rfl rfl rfl rfl (.inl rfl) objs_nil)) (by decide)
      show D.tup [_, .val (.int .i64 (mvforR xs).2)] = _
      rw [hr]
      rfl
end Go.Proofs.Ytkfbpfkomppefaa.Abs
