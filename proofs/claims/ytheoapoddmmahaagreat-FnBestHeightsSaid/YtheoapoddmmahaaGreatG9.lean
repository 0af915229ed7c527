import Derived.Test.YtheoapoddmmahaaGreatG8
set_option linter.unusedVariables false
set_option linter.unusedSimpArgs false
namespace Go.Proofs.YtheoapoddmmahaaGreat.Abs
open Go Go.RowKit
noncomputable abbrev s_S_LowestCase : Spec ((Int × Int × Int) × List Bk × Int) where
  args := fun x => [pegs x.1, .sl 8 (bks x.2.1), .val (.int .i64 x.2.2)]
  pre := fun x => isPegs x.1 ∧ ((∀ b ∈ x.2.1, isBk b) ∧ x.2.1.length ≤ 1048576) ∧ -9223372036854775808 ≤ x.2.2 ∧ x.2.2 ≤ 9223372036854775807
  new := fun x => [⟨2, 1, false, i64s ((lowR x.1.1 x.1.2.1 x.1.2.2 x.2.1 x.2.2).1)⟩]
  res := fun x => .tup [.own 0, .val (.int .i64 (lowR x.1.1 x.1.2.1 x.1.2.2 x.2.1 x.2.2).2.1), .val (.int .i64 (lowR x.1.1 x.1.2.1 x.1.2.2 x.2.1 x.2.2).2.2)]

set_option maxRecDepth 20000 in
set_option maxHeartbeats 16000000 in
theorem ok_S_LowestCase : FnOk Pr 20 s_S_LowestCase := by
 refine fn_ok 3 0 T0_ok Go.Proofs.Tryz.func20 rfl (enters_of Go.Proofs.Tryz.func20 rfl rfl) (fun _ => rfl) (fun _ => rfl) (fun _ => rfl) ?_
 rintro ⟨⟨a, b, c⟩, bs, wide⟩ ⟨hp, ⟨hv, hl⟩, hw1, hw2⟩ C hP hN hm hG
 change awp C _ _ ⟨[(0, .val (.agg #[.int .i16 a, .int .i16 b, .int .i16 c])), (1, .sl 8 (bks bs)), (2, .val (.int .i64 wide))], [], 0⟩
 simp only at hv hl hw1 hw2
 have hhl := htsI_len a b bs
 refine awp_seq ?_
 refine r1 T0_ok hP hm hN ?_
 iterate 4 refine g1 ?_
 refine awp_seq ?_
 refine r1 T0_ok hP hm hN ?_
 iterate 2 refine g1 ?_
 refine gc1 ?_ (call1 ok_S_l04Books ((_, _, _), _) [] (hpre := by (try dsimp only); exact ⟨hp, hv, by omega⟩))
 refine g1 ?_
 refine awp_seq ?_
 refine awp_seq ?_
 refine r1 T0_ok hP hm hN ?_
 iterate 3 refine g1 ?_
 refine gg1 ?_
 refine ggc1 ?_ (hs := by intro hb; simp +decide only [hb, gd_tt, gd_ff, beq_self_eq_true, Bool.true_and, beq_true]; exact ⟨rfl, _, call1 ok_S_l00In (_, _, _) [], rfl, rfl, rfl⟩)
 refine gg1 ?_
 refine g1 ?_
 refine awp_cond rfl (fun h26 => ?_) (fun h26 => ?_)
 ·
  have hp2 := h26
  simp only [Bool.and_eq_true, beq_iff_eq] at hp2
  have hr := lowR_bad (codeL_2 (bksC_zero hp2.1) hp2.2) (by omega)
  refine r1 T0_ok hP hm hN ?_
  refine g1 ?_
  refine awp_seq ?_
  refine awp_seq ?_
  refine r1 T0_ok hP hm hN ?_
  iterate 3 refine g1 ?_
  iterate 3 refine gg1 ?_
  refine g1 ?_
  refine awp_cond rfl (fun h33 => ?_) (fun h33 => ?_)
  ·
   exact absurd h33 (by decide)
  ·
   refine awp_skip ?_
   refine awp_seq ?_
   refine awp_seq ?_
   refine r1 T0_ok hP hm hN ?_
   iterate 3 refine g1 ?_
   iterate 2 refine gg1 ?_
   refine ggc1 ?_ (hs := by intro hb; simp +decide only [hb, gd_tt, gd_ff, beq_self_eq_true, Bool.true_and, beq_true]; exact ⟨rfl, _, call1 ok_S_l04Wide (bs, wide) [] (hpre := by (try dsimp only); exact ⟨hv, by omega⟩), rfl, rfl, rfl⟩)
   refine gg1 ?_
   refine g1 ?_
   refine awp_cond rfl (fun h41 => ?_) (fun h41 => ?_)
   ·
    exact absurd h41 (by decide)
   ·
    refine awp_skip ?_
    refine awp_seq ?_
    refine awp_seq ?_
    refine r1 T0_ok hP hm hN ?_
    iterate 2 refine g1 ?_
    refine awp_cond rfl (fun h43 => ?_) (fun h43 => ?_)
    ·
     refine awp_seq ?_
     refine r1 T0_ok hP hm hN ?_
     refine g1 ?_ (hst := by simp +decide (disch := omega) only [nrm, lk_nrm, dc_nrm, mk_nrm, mf_nrm, ti_nrm, ls_nrm, mp_nrm, nb_nrm, hset, pick_and, pick_or, ↓reduceIte, Nat.reduceAdd, wI64, wI32, wI16, wI8, wU8, List.length_map, Int.toNat_natCast, xn1, xn2, List.all_nil, Bool.not_true]; rfl)
     iterate 4 refine g1 ?_
     refine awp_ret ?_
     refine fin_mk [1] rfl rfl ?_ (by simp only [hr]; exact objs_cons rfl rfl rfl rfl rfl (.inl rfl) objs_nil) (by decide)
     show D.tup [_, .val (.int .i64 (lowR a b c bs wide).2.1), .val (.int .i64 (lowR a b c bs wide).2.2)] = _
     rw [hr]
     rfl
    ·
     exact absurd h43 (by decide)
 ·
  refine awp_skip ?_
  refine awp_seq ?_
  refine awp_seq ?_
  refine r1 T0_ok hP hm hN ?_
  iterate 3 refine g1 ?_
  iterate 3 refine gg1 ?_
  refine g1 ?_
  refine awp_cond rfl (fun h33 => ?_) (fun h33 => ?_)
  ·
   have hp3 := h33
   simp only [Bool.and_eq_true, beq_iff_eq] at hp3
   have h26b : (!inI wide 1 2000) = false := by have h := h26; rw [hp3.1] at h; simpa using h
   have hr := lowR_bad (codeL_6 (wide := wide) (bksC_zero hp3.1) h26b (by omega)) (by omega)
   refine r1 T0_ok hP hm hN ?_
   refine g1 ?_
   refine awp_seq ?_
   refine awp_seq ?_
   refine r1 T0_ok hP hm hN ?_
   iterate 3 refine g1 ?_
   iterate 2 refine gg1 ?_
   refine ggc1 ?_ (hs := by intro hb; simp +decide only [hb, gd_tt, gd_ff, beq_self_eq_true, Bool.true_and, beq_true]; exact ⟨rfl, _, call1 ok_S_l04Wide (bs, wide) [] (hpre := by (try dsimp only); exact ⟨hv, by omega⟩), rfl, rfl, rfl⟩)
   refine gg1 ?_
   refine g1 ?_
   refine awp_cond rfl (fun h41 => ?_) (fun h41 => ?_)
   ·
    exact absurd h41 (by decide)
   ·
    refine awp_skip ?_
    refine awp_seq ?_
    refine awp_seq ?_
    refine r1 T0_ok hP hm hN ?_
    iterate 2 refine g1 ?_
    refine awp_cond rfl (fun h43 => ?_) (fun h43 => ?_)
    ·
     refine awp_seq ?_
     refine r1 T0_ok hP hm hN ?_
     refine g1 ?_ (hst := by simp +decide (disch := omega) only [nrm, lk_nrm, dc_nrm, mk_nrm, mf_nrm, ti_nrm, ls_nrm, mp_nrm, nb_nrm, hset, pick_and, pick_or, ↓reduceIte, Nat.reduceAdd, wI64, wI32, wI16, wI8, wU8, List.length_map, Int.toNat_natCast, xn1, xn2, List.all_nil, Bool.not_true]; rfl)
     iterate 4 refine g1 ?_
     refine awp_ret ?_
     refine fin_mk [1] rfl rfl ?_ (by simp only [hr]; exact objs_cons rfl rfl rfl rfl rfl (.inl rfl) objs_nil) (by decide)
     show D.tup [_, .val (.int .i64 (lowR a b c bs wide).2.1), .val (.int .i64 (lowR a b c bs wide).2.2)] = _
     rw [hr]
     rfl
    ·
     exact absurd h43 (by decide)
  ·
   refine awp_skip ?_
   refine awp_seq ?_
   refine awp_seq ?_
   refine r1 T0_ok hP hm hN ?_
   iterate 3 refine g1 ?_
   iterate 2 refine gg1 ?_
   refine ggc1 ?_ (hs := by intro hb; simp +decide only [hb, gd_tt, gd_ff, beq_self_eq_true, Bool.true_and, beq_true]; exact ⟨rfl, _, call1 ok_S_l04Wide (bs, wide) [] (hpre := by (try dsimp only); exact ⟨hv, by omega⟩), rfl, rfl, rfl⟩)
   refine gg1 ?_
   refine g1 ?_
   refine awp_cond rfl (fun h41 => ?_) (fun h41 => ?_)
   ·
    have hp4 : bksC a b c bs = 0 ∧ bs.any (fun b => decide (b.wide > wide)) = true := by have h := h41; simp only [Bool.and_eq_true, beq_iff_eq, Bool.not_not] at h; exact h
    have h26b : (!inI wide 1 2000) = false := by have h := h26; rw [hp4.1] at h; simpa using h
    have hz : ¬ bs.length = 0 := by have h := h33; rw [hp4.1] at h; simp only [beq_self_eq_true, Bool.true_and, beq_eq_false_iff_ne, ne_eq] at h; omega
    have hr := lowR_bad (codeL_4 (bksC_zero hp4.1) h26b hz hp4.2) (by omega)
    refine r1 T0_ok hP hm hN ?_
    refine g1 ?_
    refine awp_seq ?_
    refine awp_seq ?_
    refine r1 T0_ok hP hm hN ?_
    iterate 2 refine g1 ?_
    refine awp_cond rfl (fun h43 => ?_) (fun h43 => ?_)
    ·
     refine awp_seq ?_
     refine r1 T0_ok hP hm hN ?_
     refine g1 ?_ (hst := by simp +decide (disch := omega) only [nrm, lk_nrm, dc_nrm, mk_nrm, mf_nrm, ti_nrm, ls_nrm, mp_nrm, nb_nrm, hset, pick_and, pick_or, ↓reduceIte, Nat.reduceAdd, wI64, wI32, wI16, wI8, wU8, List.length_map, Int.toNat_natCast, xn1, xn2, List.all_nil, Bool.not_true]; rfl)
     iterate 4 refine g1 ?_
     refine awp_ret ?_
     refine fin_mk [1] rfl rfl ?_ (by simp only [hr]; exact objs_cons rfl rfl rfl rfl rfl (.inl rfl) objs_nil) (by decide)
     show D.tup [_, .val (.int .i64 (lowR a b c bs wide).2.1), .val (.int .i64 (lowR a b c bs wide).2.2)] = _
     rw [hr]
     rfl
    ·
     exact absurd h43 (by decide)
   ·
    refine awp_skip ?_
    refine awp_seq ?_
    refine awp_seq ?_
    refine r1 T0_ok hP hm hN ?_
    iterate 2 refine g1 ?_
    refine awp_cond rfl (fun h43 => ?_) (fun h43 => ?_)
    ·
     have hb := bksC_one (by simpa using h43)
     have hr : lowR a b c bs wide = ([], 0, bksC a b c bs) := by rw [lowR_bad (codeL_1 (wide := wide) hb.1) (by omega), hb.2]
     refine awp_seq ?_
     refine r1 T0_ok hP hm hN ?_
     refine g1 ?_ (hst := by simp +decide (disch := omega) only [nrm, lk_nrm, dc_nrm, mk_nrm, mf_nrm, ti_nrm, ls_nrm, mp_nrm, nb_nrm, hset, pick_and, pick_or, ↓reduceIte, Nat.reduceAdd, wI64, wI32, wI16, wI8, wU8, List.length_map, Int.toNat_natCast, xn1, xn2, List.all_nil, Bool.not_true]; rfl)
     iterate 4 refine g1 ?_
     refine awp_ret ?_
     refine fin_mk [1] rfl rfl ?_ (by simp only [hr]; exact objs_cons rfl rfl rfl rfl rfl (.inl rfl) objs_nil) (by decide)
     show D.tup [_, .val (.int .i64 (lowR a b c bs wide).2.1), .val (.int .i64 (lowR a b c bs wide).2.2)] = _
     rw [hr]
     rfl
    ·
     have hg0 : bksC a b c bs = 0 := by simpa using h43
     have h26b : (!inI wide 1 2000) = false := by have h := h26; rw [hg0] at h; simpa using h
     have hz : ¬ bs.length = 0 := by have h := h33; rw [hg0] at h; simp only [beq_self_eq_true, Bool.true_and, beq_eq_false_iff_ne, ne_eq] at h; omega
     have hgd := bksC_zero hg0
     have han : bs.any (fun b => decide (b.wide > wide)) = false := by have h := h41; rw [hg0] at h; simpa only [beq_self_eq_true, Bool.true_and, Bool.not_not] using h
     have hr := lowR_good (codeL_0 hgd h26b hz han)
     obtain ⟨hok, hvb, hl60⟩ := okb hgd
     obtain ⟨hob, -⟩ := validBs_b2 hvb
     have hwb := inI_iff.1 (show inI wide 1 2000 = true by simpa using h26b)
     have hpb : PreB bs wide := ⟨⟨hv, fun b hb => hob b hb, hl60⟩, hwb⟩
     have hm0 := htsI_pos (a := a) (b := b) (show 0 < bs.length by omega)
     obtain ⟨KK, hKK⟩ : ∃ KK, KK = min 6 (htsI a b bs).length := ⟨_, rfl⟩
     refine awp_skip ?_
     refine awp_seq ?_
     refine r1 T0_ok hP hm hN ?_
     iterate 2 refine g1 ?_
     refine gc1 ?_ (call1 ok_S_l04Heights ((_, _, _), _) [] (hpre := by (try dsimp only); exact ⟨hok, hp, hv, by omega⟩))
     refine g1 ?_
     refine awp_seq ?_
     refine r1 T0_ok hP hm hN ?_
     refine g1 ?_ (hst := by simp +decide (disch := omega) only [nrm, lk_nrm, dc_nrm, mk_nrm, mf_nrm, ti_nrm, ls_nrm, mp_nrm, nb_nrm, hset, pick_and, pick_or, ↓reduceIte, Nat.reduceAdd, wI64, wI32, wI16, wI8, wU8, List.length_map, Int.toNat_natCast, xn1, xn2, List.all_nil, Bool.not_true]; rfl)
     refine g1 ?_
     refine awp_seq ?_
     refine r1 T0_ok hP hm hN ?_
     refine g1 ?_
     refine awp_seq ?_
     refine awp_seq ?_
     refine r1 T0_ok hP hm hN ?_
     refine g1 ?_
     refine awp_block ?_
     refine awp_loop (fun n st => ∃ k : Nat, k ≤ KK ∧ n = KK - k ∧ st = ⟨[(13, .val (.int .i64 (((k + 1) : Nat) : Int))), (11, .own 2), (12, .val (.int .i64 (lowF a b c bs wide k).2)), (10, .own 1), (3, .ptr 0 0 0), (1, .sl 8 (bks bs)), (2, .val (.int .i64 wide))], [(2, ⟨2, 1, false, i64s ((lowF a b c bs wide k).1)⟩), (1, ⟨2, 1, false, i64s (htsI a b bs)⟩), (0, ⟨26, 3, true, [[.val (.int .i16 a), .val (.int .i16 b), .val (.int .i16 c)]]⟩)], 3⟩) KK ⟨_, weak_sl (sub_cons rfl (sub_cons rfl (sub_cons rfl (sub_cons rfl (sub_cons rfl (sub_cons rfl (sub_cons rfl (sub_nil)))))))), 0, by omega, rfl, rfl⟩ ?_
     rintro n st ⟨k, hik, hn, rfl⟩
     have hlf := lowF_len wide hok hob hl60 k (by omega) (by omega)
     refine awp_seq ?_
     refine awp_seq ?_
     refine r1 T0_ok hP hm hN ?_
     iterate 3 refine g1 ?_
     iterate 4 refine gg1 ?_
     refine g1 ?_
     refine awp_cond rfl (fun h57 => ?_) (fun h57 => ?_)
     ·
      have hle : k + 1 ≤ KK := by have h := h57; simp only [Bool.and_eq_true, decide_eq_true_eq] at h; omega
      refine awp_skip ?_
      refine awp_seq ?_
      refine awp_block ?_
      refine awp_seq ?_
      refine r1 T0_ok hP hm hN ?_
      iterate 3 refine g1 ?_
      refine gc1 ?_ (call1 ok_S_l04Best (_, _, k + 1) [] (hpre := by (try dsimp only); exact ⟨⟨htsI_ok hok hob, hv, hob, hl60⟩, by omega, by omega, by omega⟩))
      iterate 5 refine g1 ?_
      refine awp_seq ?_
      have hbe := best_eq hok hob hl60 (show 1 ≤ k + 1 by omega) (by omega) (by omega)
      have hbl := (best_facts hok hob hl60 (show 1 ≤ k + 1 by omega) (by omega) (by omega)).1
      have hpg := best_preG hok hv hob hl60 (show 1 ≤ k + 1 by omega) (by omega) (by omega)
      have hag := best_all hok hob hl60 (show 1 ≤ k + 1 by omega) (by omega) (by omega)
      refine awp_weak (show Weak C _ ⟨[(14, .own 3), (13, .val (.int .i64 (((k + 1) : Nat) : Int))), (11, .own 2), (12, .val (.int .i64 (lowF a b c bs wide k).2)), (10, .own 1), (3, .ptr 0 0 0), (1, .sl 8 (bks bs)), (2, .val (.int .i64 wide))], [(3, ⟨2, 1, false, i64s ((bestL a b bs (k + 1)))⟩), (2, ⟨2, 1, false, i64s ((lowF a b c bs wide k).1)⟩), (1, ⟨2, 1, false, i64s (htsI a b bs)⟩), (0, ⟨26, 3, true, [[.val (.int .i16 a), .val (.int .i16 b), .val (.int .i16 c)]]⟩)], 4⟩ from by rw [← hbe.1]; exact weak_sl (sub_cons rfl (sub_cons rfl (sub_cons rfl (sub_cons rfl (sub_cons rfl (sub_cons rfl (sub_cons rfl (sub_cons rfl (sub_nil)))))))))) ?_
      refine awp_draw T0_ok hP hm hN Pr_mix [0, 1, 2, 3, 4, 5, 6, 7, 8, 9, 10, 11] [5, 6] _ rfl (by rfl) ?_
      iterate 5 refine d1 T0_ok ?_
      refine dp1 ?_ (call1 ok_S_l04Needed ((bestL a b bs (k + 1)), bs, wide) [] (hpre := by (try dsimp only); exact ⟨hpg, hwb⟩))
      refine dp1 ?_ (call1 ok_S_l04Tall ((_, _, _), _, _) [] (hpre := by (try dsimp only); exact ⟨hp, by omega, by rw [List.length_map, grpF_len]⟩))
      refine d1 T0_ok ?_
      refine dreg_nil ?_
      refine awp_seq ?_
      refine r1 T0_ok hP hm hN ?_
      iterate 4 refine g1 ?_
      iterate 3 refine gg1 ?_
      refine g1 ?_
      refine awp_cond rfl (fun h81 => ?_) (fun h81 => ?_)
      ·
       have hyes : k = 0 ∨ lowT a b c bs wide (k + 1) < (lowF a b c bs wide k).2 := by
         rcases Bool.or_eq_true_iff.1 h81 with h | h
         · left; simp only [beq_iff_eq] at h; have := hlf.2; omega
         · exact .inr (of_decide_eq_true h)
       refine awp_seq ?_
       refine r1 T0_ok hP hm hN ?_
       iterate 2 refine g1 ?_
       refine r1 T0_ok hP hm hN ?_
       iterate 2 refine g1 ?_
       refine r1 T0_ok hP hm hN ?_
       iterate 3 refine g1 ?_
       first
         | exact ⟨KK - (k + 1), _, by omega, (by rw [lowF_yes hyes]; exact Weak.trans (weak_drop 4) (Weak.trans (weak_drop 2) (Weak.trans (weak_swap 2 3 (by omega) (by omega) (by omega) (by omega)) (Weak.trans (weak_nx (nx' := 3) (by omega) (by rfl)) (weak_sl (sub_cons rfl (sub_cons rfl (sub_cons rfl (sub_cons rfl (sub_cons rfl (sub_cons rfl (sub_cons rfl (sub_nil))))))))))))), k + 1, by omega, rfl, rfl⟩
         | exact ⟨KK - (k + 1), _, by omega, (by rw [lowF_no hno.1 hno.2]; exact Weak.trans (weak_drop 4) (Weak.trans (weak_drop 3) (Weak.trans (weak_nx (nx' := 3) (by omega) (by rfl)) (weak_sl (sub_cons rfl (sub_cons rfl (sub_cons rfl (sub_cons rfl (sub_cons rfl (sub_cons rfl (sub_cons rfl (sub_nil)))))))))))), k + 1, by omega, rfl, rfl⟩
      ·
       have hno : k ≠ 0 ∧ ¬ lowT a b c bs wide (k + 1) < (lowF a b c bs wide k).2 := by
         obtain ⟨h1, h2⟩ := Bool.or_eq_false_iff.1 h81
         refine ⟨fun e => ?_, of_decide_eq_false h2⟩
         rw [e] at h1
         exact absurd h1 (by simp [lowF])
       refine awp_skip ?_
       refine r1 T0_ok hP hm hN ?_
       iterate 3 refine g1 ?_
       first
         | exact ⟨KK - (k + 1), _, by omega, (by rw [lowF_yes hyes]; exact Weak.trans (weak_drop 4) (Weak.trans (weak_drop 2) (Weak.trans (weak_swap 2 3 (by omega) (by omega) (by omega) (by omega)) (Weak.trans (weak_nx (nx' := 3) (by omega) (by rfl)) (weak_sl (sub_cons rfl (sub_cons rfl (sub_cons rfl (sub_cons rfl (sub_cons rfl (sub_cons rfl (sub_cons rfl (sub_nil))))))))))))), k + 1, by omega, rfl, rfl⟩
         | exact ⟨KK - (k + 1), _, by omega, (by rw [lowF_no hno.1 hno.2]; exact Weak.trans (weak_drop 4) (Weak.trans (weak_drop 3) (Weak.trans (weak_nx (nx' := 3) (by omega) (by rfl)) (weak_sl (sub_cons rfl (sub_cons rfl (sub_cons rfl (sub_cons rfl (sub_cons rfl (sub_cons rfl (sub_cons rfl (sub_nil)))))))))))), k + 1, by omega, rfl, rfl⟩
     ·
      have hge : ¬ k + 1 ≤ KK := by have h := h57; simp only [Bool.and_eq_false_iff, decide_eq_false_iff_not] at h; omega
      have hkK : k = KK := by omega
      have hr2 : lowR a b c bs wide = ((lowF a b c bs wide k).1, (lowF a b c bs wide k).2, 0) := by rw [hr, ← hKK, hkK]
      refine awp_exit ?_
      repeat refine thenA_exit ?_
      refine blockA_hit ?_
      refine awp_seq ?_
      refine r1 T0_ok hP hm hN ?_
      iterate 5 refine g1 ?_
      refine awp_ret ?_
      refine fin_mk [2] rfl rfl ?_ (by simp only [hr2]; exact objs_cons rfl rfl rfl rfl rfl (.inl rfl) objs_nil) (by decide)
      show D.tup [_, .val (.int .i64 (lowR a b c bs wide).2.1), .val (.int .i64 (lowR a b c bs wide).2.2)] = _
      rw [hr2]
      rfl
end Go.Proofs.YtheoapoddmmahaaGreat.Abs

