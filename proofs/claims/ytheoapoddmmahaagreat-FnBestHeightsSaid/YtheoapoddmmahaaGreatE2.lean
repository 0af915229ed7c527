import Derived.Test.YtheoapoddmmahaaGreatE1
set_option linter.unusedVariables false
set_option linter.unusedSimpArgs false
namespace Go.Proofs.YtheoapoddmmahaaGreat.Abs
open Go Go.RowKit
noncomputable abbrev s_S_l04Heights : Spec ((Int × Int × Int) × List Bk) where
  args := fun x => [pegs x.1, .sl 8 (bks x.2)]
  pre := fun x => pegsOk x.1.1 x.1.2.1 x.1.2.2 = true ∧ isPegs x.1 ∧ (∀ b ∈ x.2, isBk b) ∧ x.2.length ≤ 60
  new := fun x => [⟨2, 1, false, i64s (htsI x.1.1 x.1.2.1 x.2)⟩]
  res := fun x => .own 0

set_option maxRecDepth 20000 in
set_option maxHeartbeats 1000000 in
theorem ok_S_l04Heights : FnOk Pr 30 s_S_l04Heights := by
 refine fn_ok 2 0 T0_ok Go.Proofs.Tryz.func30 rfl (enters_of Go.Proofs.Tryz.func30 rfl rfl) (fun _ => rfl) (fun _ => rfl) (fun _ => rfl) ?_
 rintro ⟨⟨a, b, c⟩, bs⟩ ⟨hok, hp, hv, hl⟩ C hP hN hm hG
 change awp C _ _ ⟨[(0, .val (.agg #[.int .i16 a, .int .i16 b, .int .i16 c])), (1, .sl 8 (bks bs))], [], 0⟩
 simp only at hok hv hl
 refine awp_seq ?_
 refine r1 T0_ok hP hm hN ?_
 iterate 2 refine g1 ?_
 refine awp_seq ?_
 refine r1 T0_ok hP hm hN ?_
 refine g1 ?_ (hst := by simp +decide (disch := omega) only [nrm, lk_nrm, dc_nrm, mk_nrm, mf_nrm, ti_nrm, ls_nrm, mp_nrm, nb_nrm, hset, pick_and, pick_or, ↓reduceIte, Nat.reduceAdd, wI64, wI32, wI16, wI8, wU8, List.length_map, Int.toNat_natCast, xn1, xn2, List.all_nil, Bool.not_true]; rfl)
 refine g1 ?_
 refine awp_seq ?_
 refine awp_seq ?_
 refine r1 T0_ok hP hm hN ?_
 refine g1 ?_
 refine awp_block ?_
 refine awp_loop (fun n st => ∃ i : Nat, i ≤ bs.length ∧ n = bs.length - i ∧ st = ⟨[(6, .val (.int .i64 (i : Nat))), (5, .own 1), (2, .ptr 0 0 0), (1, .sl 8 (bks bs))], [(1, ⟨2, 1, false, i64s (htsF a b bs i)⟩), (0, ⟨26, 3, true, [[.val (.int .i16 a), .val (.int .i16 b), .val (.int .i16 c)]]⟩)], 2⟩) (bs.length) ⟨_, weak_sl (sub_cons rfl (sub_cons rfl (sub_cons rfl (sub_cons rfl (sub_nil))))), 0, by omega, rfl, rfl⟩ ?_
 rintro n st ⟨i, hii, hni, rfl⟩
 have hfl := htsF_len a b bs i
 refine awp_seq ?_
 refine awp_seq ?_
 refine r1 T0_ok hP hm hN ?_
 iterate 4 refine g1 ?_
 refine awp_cond rfl (fun hc0 => ?_) (fun hc0 => ?_)
 ·
  have hlti : i < bs.length := by simpa using hc0
  have hbh : -32768 ≤ (bs.getD i bk0).high ∧ (bs.getD i bk0).high ≤ 32767 := (hv _ (getD_mem' (d := bk0) hlti)).2.2.2.2.2.2.1
  have hgx := bks_get bs i hlti
  refine awp_skip ?_
  refine awp_seq ?_
  refine awp_block ?_
  refine awp_draw T0_ok hP hm hN Pr_mix [0, 1, 2, 3, 4, 5, 6, 7, 8, 9, 10, 11] [8, 9] _ rfl (by rfl) ?_
  iterate 8 refine d1 T0_ok ?_
  refine dp1 ?_ (call1 ok_S_l04Peg ((_, _, _), _) [] (hpre := by (try dsimp only); exact ⟨hok, by omega, by omega⟩))
  refine dp1 ?_ (call1 ok_S_l00Put (htsF a b bs i, _) [] (hpre := by (try dsimp only); omega))
  refine d1 T0_ok ?_
  refine dreg_nil ?_
  refine r1 T0_ok hP hm hN ?_
  iterate 3 refine g1 ?_
  refine ⟨bs.length - (i + 1), _, by omega, (by rw [htsF]; exact Weak.trans (weak_drop 1) (Weak.trans (weak_swap 1 2 (by omega) (by omega) (by decide) (by decide)) (Weak.trans (weak_nx (nx' := 2) (by omega) (by rfl)) (weak_sl (sub_cons rfl (sub_cons rfl (sub_cons rfl (sub_cons rfl (sub_nil))))))))), i + 1, by omega, rfl, rfl⟩
 ·
  have hgei : ¬ i < bs.length := by simpa using hc0
  have heqi : i = bs.length := by omega
  rw [heqi, htsF_eq]
  refine awp_exit ?_
  repeat refine thenA_exit ?_
  refine blockA_hit ?_
  refine awp_seq ?_
  refine r1 T0_ok hP hm hN ?_
  iterate 2 refine g1 ?_
  refine awp_ret ?_
  refine fin_mk [1] rfl rfl ?_ (objs_cons rfl rfl rfl rfl rfl (.inl rfl) objs_nil) (by decide)
  rfl

noncomputable abbrev s_S_l04Books : Spec ((Int × Int × Int) × List Bk) where
  args := fun x => [pegs x.1, .sl 8 (bks x.2)]
  pre := fun x => isPegs x.1 ∧ (∀ b ∈ x.2, isBk b) ∧ x.2.length ≤ 1048576
  res := fun x => .val (.int .i64 (bksC x.1.1 x.1.2.1 x.1.2.2 x.2))

set_option maxRecDepth 20000 in
set_option maxHeartbeats 1000000 in
theorem ok_S_l04Books : FnOk Pr 29 s_S_l04Books := by
 refine fn_ok 2 0 T0_ok Go.Proofs.Tryz.func29 rfl (enters_of Go.Proofs.Tryz.func29 rfl rfl) (fun _ => rfl) (fun _ => rfl) (fun _ => rfl) ?_
 rintro ⟨⟨a, b, c⟩, bs⟩ ⟨hp, hv, hl⟩ C hP hN hm hG
 change awp C _ _ ⟨[(0, .val (.agg #[.int .i16 a, .int .i16 b, .int .i16 c])), (1, .sl 8 (bks bs))], [], 0⟩
 simp only at hv hl
 refine awp_seq ?_
 refine r1 T0_ok hP hm hN ?_
 iterate 2 refine g1 ?_
 refine awp_seq ?_
 refine awp_seq ?_
 refine r1 T0_ok hP hm hN ?_
 refine g1 ?_
 refine gc1 ?_ (call1 ok_S_l04Pegs (_, _, _) [] (hpre := by (try dsimp only); exact hp))
 iterate 2 refine g1 ?_
 refine gg1 ?_
 refine ggc1 ?_ (hs := by intro hb; simp +decide only [hb, gd_tt, gd_ff, beq_self_eq_true, Bool.true_and, beq_true]; exact ⟨rfl, _, call1 ok_S_l01Ok _ [] (hpre := by (try dsimp only); exact ⟨hv, by omega⟩), rfl, rfl, rfl⟩)
 refine gg1 ?_
 refine g1 ?_
 refine awp_cond rfl (fun hc0 => ?_) (fun hc0 => ?_)
 ·
  refine awp_seq ?_
  refine r1 T0_ok hP hm hN ?_
  refine g1 ?_
  refine awp_ret ?_
  refine fin_mk [] rfl rfl ?_ trivial (by decide)
  show D.val (.int .i64 (bksC a b c bs)) = _
  rw [bksC, if_pos hc0]
  rfl
 ·
  refine awp_skip ?_
  refine awp_seq ?_
  refine r1 T0_ok hP hm hN ?_
  refine g1 ?_
  refine awp_ret ?_
  refine fin_mk [] rfl rfl ?_ trivial (by decide)
  show D.val (.int .i64 (bksC a b c bs)) = _
  rw [bksC, if_neg (by rw [hc0]; simp)]
  rfl

theorem orb_false {x y : Bool} (h : (x || y) = false) : x = false ∧ y = false := by cases x <;> simp_all
theorem okb {a b c : Int} {bs : List Bk} (h : (!pegsOk a b c || !validBs bs) = false) : pegsOk a b c = true ∧ validBs bs = true ∧ bs.length ≤ 60 := by
  have h2 := orb_false h
  simp only [Bool.not_eq_false'] at h2
  refine ⟨h2.1, h2.2, ?_⟩
  have := h2.2
  simp only [validBs, Bool.and_eq_true, decide_eq_true_eq] at this
  omega

noncomputable abbrev s_I_HeightsOf : Spec ((Int × Int × Int) × List Bk) where
  args := fun x => [pegs x.1, .sl 8 (bks x.2)]
  pre := fun x => isPegs x.1 ∧ (∀ b ∈ x.2, isBk b) ∧ x.2.length ≤ 1048576
  new := fun x => [⟨2, 1, false, i64s ((htsR x.1.1 x.1.2.1 x.1.2.2 x.2).1)⟩]
  res := fun x => .tup [.own 0, .val (.int .i64 (htsR x.1.1 x.1.2.1 x.1.2.2 x.2).2)]

set_option maxRecDepth 20000 in
set_option maxHeartbeats 1000000 in
theorem ok_I_HeightsOf : FnOk Pr 8 s_I_HeightsOf := by
 refine fn_ok 2 0 T0_ok Go.Proofs.Tryz.func8 rfl (enters_of Go.Proofs.Tryz.func8 rfl rfl) (fun _ => rfl) (fun _ => rfl) (fun _ => rfl) ?_
 rintro ⟨⟨a, b, c⟩, bs⟩ ⟨hp, hv, hl⟩ C hP hN hm hG
 change awp C _ _ ⟨[(0, .val (.agg #[.int .i16 a, .int .i16 b, .int .i16 c])), (1, .sl 8 (bks bs))], [], 0⟩
 simp only at hv hl
 refine awp_seq ?_
 refine r1 T0_ok hP hm hN ?_
 iterate 3 refine g1 ?_
 refine awp_seq ?_
 refine awp_seq ?_
 refine r1 T0_ok hP hm hN ?_
 refine g1 ?_
 refine gc1 ?_ (call1 ok_I_ValidPegs (_, _, _) [] (hpre := by (try dsimp only); exact hp))
 iterate 2 refine g1 ?_
 refine gg1 ?_
 refine ggc1 ?_ (hs := by intro hb; simp +decide only [hb, gd_tt, gd_ff, beq_self_eq_true, Bool.true_and, beq_true]; exact ⟨rfl, _, call1 ok_I_ValidBooks _ [] (hpre := by (try dsimp only); omega), rfl, rfl, rfl⟩)
 refine gg1 ?_
 refine g1 ?_
 refine awp_cond rfl (fun hc0 => ?_) (fun hc0 => ?_)
 ·
  have hr : htsR a b c bs = ([], 1) := by rw [htsR, if_pos hc0]
  refine awp_seq ?_
  refine r1 T0_ok hP hm hN ?_
  iterate 2 refine g1 ?_
  refine awp_weak (weak_nil 4 2 1 rfl) ?_
  refine awp_ret ?_
  refine fin_mk [1] rfl rfl ?_ (by simp only [hr]; exact objs_cons rfl rfl rfl rfl rfl (.inl rfl) objs_nil) (by decide)
  show D.tup [_, .val (.int .i64 (htsR a b c bs).2)] = _
  rw [hr]
  rfl
 ·
  obtain ⟨hok, hvb, hl60⟩ := okb hc0
  have hr : htsR a b c bs = (htsI a b bs, 0) := by rw [htsR, if_neg (by rw [hc0]; simp)]
  refine awp_skip ?_
  refine awp_seq ?_
  refine r1 T0_ok hP hm hN ?_
  iterate 2 refine g1 ?_
  refine gc1 ?_ (call1 ok_I_Pegs_heightsOf ((_, _, _), _) [] (hpre := by (try dsimp only); exact ⟨hok, hp, hv, by omega⟩))
  iterate 2 refine g1 ?_
  refine awp_ret ?_
  refine fin_mk [1] rfl rfl ?_ (by simp only [hr]; exact objs_cons rfl rfl rfl rfl rfl (.inl rfl) objs_nil) (by decide)
  show D.tup [_, .val (.int .i64 (htsR a b c bs).2)] = _
  rw [hr]
  rfl

noncomputable abbrev s_S_HeightsOf : Spec ((Int × Int × Int) × List Bk) where
  args := fun x => [pegs x.1, .sl 8 (bks x.2)]
  pre := fun x => isPegs x.1 ∧ (∀ b ∈ x.2, isBk b) ∧ x.2.length ≤ 1048576
  new := fun x => [⟨2, 1, false, i64s ((htsR x.1.1 x.1.2.1 x.1.2.2 x.2).1)⟩]
  res := fun x => .tup [.own 0, .val (.int .i64 (htsR x.1.1 x.1.2.1 x.1.2.2 x.2).2)]

set_option maxRecDepth 20000 in
set_option maxHeartbeats 1000000 in
theorem ok_S_HeightsOf : FnOk Pr 9 s_S_HeightsOf := by
 refine fn_ok 2 0 T0_ok Go.Proofs.Tryz.func9 rfl (enters_of Go.Proofs.Tryz.func9 rfl rfl) (fun _ => rfl) (fun _ => rfl) (fun _ => rfl) ?_
 rintro ⟨⟨a, b, c⟩, bs⟩ ⟨hp, hv, hl⟩ C hP hN hm hG
 change awp C _ _ ⟨[(0, .val (.agg #[.int .i16 a, .int .i16 b, .int .i16 c])), (1, .sl 8 (bks bs))], [], 0⟩
 simp only at hv hl
 refine awp_seq ?_
 refine r1 T0_ok hP hm hN ?_
 iterate 3 refine g1 ?_
 refine awp_seq ?_
 refine awp_seq ?_
 refine r1 T0_ok hP hm hN ?_
 iterate 2 refine g1 ?_
 refine gc1 ?_ (call1 ok_S_l04Books ((_, _, _), _) [] (hpre := by (try dsimp only); exact ⟨hp, hv, by omega⟩))
 refine g1 ?_
 refine awp_seq ?_
 refine r1 T0_ok hP hm hN ?_
 iterate 2 refine g1 ?_
 refine awp_cond rfl (fun hc0 => ?_) (fun hc0 => ?_)
 ·
  have hb1 : (!pegsOk a b c || !validBs bs) = true := by
    rcases hx : (!pegsOk a b c || !validBs bs) with _ | _
    · rw [bksC, if_neg (by rw [hx]; simp)] at hc0; simp at hc0
    · rfl
  have hb2 : bksC a b c bs = 1 := by rw [bksC, if_pos hb1]
  have hr : htsR a b c bs = ([], 1) := by rw [htsR, if_pos hb1]
  refine awp_seq ?_
  refine r1 T0_ok hP hm hN ?_
  refine g1 ?_ (hst := by simp +decide (disch := omega) only [nrm, lk_nrm, dc_nrm, mk_nrm, mf_nrm, ti_nrm, ls_nrm, mp_nrm, nb_nrm, hset, pick_and, pick_or, ↓reduceIte, Nat.reduceAdd, wI64, wI32, wI16, wI8, wU8, List.length_map, Int.toNat_natCast, xn1, xn2, List.all_nil, Bool.not_true, hb2]; rfl)
  refine g1 ?_ (hst := by simp +decide (disch := omega) only [nrm, lk_nrm, dc_nrm, mk_nrm, mf_nrm, ti_nrm, ls_nrm, mp_nrm, nb_nrm, hset, pick_and, pick_or, ↓reduceIte, Nat.reduceAdd, wI64, wI32, wI16, wI8, wU8, List.length_map, Int.toNat_natCast, xn1, xn2, hb2]; rfl)
  iterate 2 refine g1 ?_
  refine awp_ret ?_
  refine fin_mk [1] rfl rfl ?_ (by simp only [hr]; exact objs_cons rfl rfl rfl rfl rfl (.inl rfl) objs_nil) (by decide)
  show D.tup [_, .val (.int .i64 (htsR a b c bs).2)] = _
  rw [hr]
  rfl
 ·
  have hb1 : (!pegsOk a b c || !validBs bs) = false := by
    rcases hx : (!pegsOk a b c || !validBs bs) with _ | _
    · rfl
    · rw [bksC, if_pos hx] at hc0; simp at hc0
  obtain ⟨hok, hvb, hl60⟩ := okb hb1
  have hr : htsR a b c bs = (htsI a b bs, 0) := by rw [htsR, if_neg (by rw [hb1]; simp)]
  refine awp_skip ?_
  refine awp_seq ?_
  refine r1 T0_ok hP hm hN ?_
  iterate 2 refine g1 ?_
  refine gc1 ?_ (call1 ok_S_l04Heights ((_, _, _), _) [] (hpre := by (try dsimp only); exact ⟨hok, hp, hv, by omega⟩))
  iterate 2 refine g1 ?_
  refine awp_ret ?_
  refine fin_mk [1] rfl rfl ?_ (by simp only [hr]; exact objs_cons rfl rfl rfl rfl rfl (.inl rfl) objs_nil) (by decide)
  show D.tup [_, .val (.int .i64 (htsR a b c bs).2)] = _
  rw [hr]
  rfl
end Go.Proofs.YtheoapoddmmahaaGreat.Abs

