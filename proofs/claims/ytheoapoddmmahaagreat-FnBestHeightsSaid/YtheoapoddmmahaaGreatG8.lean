import Derived.Test.YtheoapoddmmahaaGreatG7
set_option linter.unusedVariables false
set_option linter.unusedSimpArgs false
namespace Go.Proofs.YtheoapoddmmahaaGreat.Abs
open Go Go.RowKit
noncomputable abbrev s_I_LowestCase : Spec ((Int × Int × Int) × List Bk × Int) where
  args := fun x => [pegs x.1, .sl 8 (bks x.2.1), .val (.int .i64 x.2.2)]
  pre := fun x => isPegs x.1 ∧ ((∀ b ∈ x.2.1, isBk b) ∧ x.2.1.length ≤ 1048576) ∧ -9223372036854775808 ≤ x.2.2 ∧ x.2.2 ≤ 9223372036854775807
  new := fun x => [⟨2, 1, false, i64s ((lowR x.1.1 x.1.2.1 x.1.2.2 x.2.1 x.2.2).1)⟩]
  res := fun x => .tup [.own 0, .val (.int .i64 (lowR x.1.1 x.1.2.1 x.1.2.2 x.2.1 x.2.2).2.1), .val (.int .i64 (lowR x.1.1 x.1.2.1 x.1.2.2 x.2.1 x.2.2).2.2)]

set_option maxRecDepth 20000 in
set_option maxHeartbeats 16000000 in
theorem ok_I_LowestCase : FnOk Pr 19 s_I_LowestCase := by
 refine fn_ok0 3 T0_ok Go.Proofs.Tryz.func19 rfl (enters_of Go.Proofs.Tryz.func19 rfl rfl) (fun _ => rfl) (fun _ => rfl) (fun _ => rfl) ?_
 rintro ⟨⟨a, b, c⟩, bs, wide⟩ ⟨hp, ⟨hv, hl⟩, hw1, hw2⟩ C hP hN hm hG hS0
 change awp C _ _ ⟨[(0, .val (.agg #[.int .i16 a, .int .i16 b, .int .i16 c])), (1, .sl 8 (bks bs)), (2, .val (.int .i64 wide))], [], 0⟩
 simp only at hv hl hw1 hw2
 have hhl := htsI_len a b bs
 refine awp_seq ?_
 refine r1 T0_ok hP hm hN ?_
 iterate 6 refine g1 ?_
 refine awp_seq ?_
 refine awp_block ?_
 refine awp_seq ?_
 refine r1 T0_ok hP hm hN ?_
 refine g1 ?_
 refine gc1 ?_ (call1 ok_I_ValidPegs (_, _, _) [] (hpre := by (try dsimp only); exact hp))
 iterate 2 refine g1 ?_
 refine gg1 ?_
 refine ggc1 ?_ (hs := by intro hb; simp +decide only [hb, gd_tt, gd_ff, beq_self_eq_true, Bool.true_and, beq_true]; exact ⟨rfl, _, call1 ok_I_ValidBooks _ [] (hpre := by (try dsimp only); omega), rfl, rfl, rfl⟩)
 refine gg1 ?_
 iterate 2 refine g1 ?_
 refine awp_cond rfl (fun hc0 => ?_) (fun hc0 => ?_)
 ·
  have hr := lowR_bad (codeL_1 (wide := wide) hc0) (by omega)
  refine awp_seq ?_
  refine r1 T0_ok hP hm hN ?_
  iterate 3 refine g1 ?_
  refine awp_weak (weak_nil 6 2 1 rfl) ?_
  refine awp_ret ?_
  refine fin_mk [3] rfl rfl ?_ (by simp only [hr]; exact objs_cons rfl rfl rfl rfl rfl (.inl rfl) objs_nil) (by decide)
  show D.tup [_, .val (.int .i64 (lowR a b c bs wide).2.1), .val (.int .i64 (lowR a b c bs wide).2.2)] = _
  rw [hr]
  rfl
 ·
  obtain ⟨hok, hvb, hl60⟩ := okb hc0
  obtain ⟨hob, -⟩ := validBs_b2 hvb
  refine awp_seq ?_
  refine r1 T0_ok hP hm hN ?_
  refine g1 ?_
  refine gc1 ?_ (call1 ok_I_isShelfWide _ [] (hpre := by (try dsimp only); (try trivial)))
  iterate 2 refine g1 ?_
  refine awp_cond rfl (fun hc1 => ?_) (fun hc1 => ?_)
  ·
   have hr := lowR_bad (codeL_2 hc0 hc1) (by omega)
   refine awp_seq ?_
   refine r1 T0_ok hP hm hN ?_
   iterate 3 refine g1 ?_
   refine awp_weak (weak_nil 6 2 1 rfl) ?_
   refine awp_ret ?_
   refine fin_mk [3] rfl rfl ?_ (by simp only [hr]; exact objs_cons rfl rfl rfl rfl rfl (.inl rfl) objs_nil) (by decide)
   show D.tup [_, .val (.int .i64 (lowR a b c bs wide).2.1), .val (.int .i64 (lowR a b c bs wide).2.2)] = _
   rw [hr]
   rfl
  ·
   have hwb := inI_iff.1 (show inI wide 1 2000 = true by simpa using hc1)
   refine awp_seq ?_
   refine r1 T0_ok hP hm hN ?_
   iterate 4 refine g1 ?_
   refine awp_cond rfl (fun hc2 => ?_) (fun hc2 => ?_)
   ·
    have hz : bs.length = 0 := by have h := hc2; simp only [beq_iff_eq] at h; omega
    have hr := lowR_bad (codeL_6 hc0 hc1 hz) (by omega)
    refine awp_seq ?_
    refine r1 T0_ok hP hm hN ?_
    iterate 3 refine g1 ?_
    refine awp_weak (weak_nil 6 2 1 rfl) ?_
    refine awp_ret ?_
    refine fin_mk [3] rfl rfl ?_ (by simp only [hr]; exact objs_cons rfl rfl rfl rfl rfl (.inl rfl) objs_nil) (by decide)
    show D.tup [_, .val (.int .i64 (lowR a b c bs wide).2.1), .val (.int .i64 (lowR a b c bs wide).2.2)] = _
    rw [hr]
    rfl
   ·
    have hz : ¬ bs.length = 0 := by have h := hc2; simp only [beq_eq_false_iff_ne, ne_eq] at h; omega
    refine awp_seq ?_
    refine r1 T0_ok hP hm hN ?_
    iterate 2 refine g1 ?_
    refine gc1 ?_ (call1 ok_I_tooWide (bs, wide) [] (hpre := by (try dsimp only); exact ⟨hv, by omega⟩))
    refine g1 ?_
    refine awp_cond rfl (fun hc3 => ?_) (fun hc3 => ?_)
    ·
     have hr := lowR_bad (codeL_4 hc0 hc1 hz hc3) (by omega)
     refine awp_seq ?_
     refine r1 T0_ok hP hm hN ?_
     iterate 3 refine g1 ?_
     refine awp_weak (weak_nil 6 2 1 rfl) ?_
     refine awp_ret ?_
     refine fin_mk [3] rfl rfl ?_ (by simp only [hr]; exact objs_cons rfl rfl rfl rfl rfl (.inl rfl) objs_nil) (by decide)
     show D.tup [_, .val (.int .i64 (lowR a b c bs wide).2.1), .val (.int .i64 (lowR a b c bs wide).2.2)] = _
     rw [hr]
     rfl
    ·
     have hr := lowR_good (codeL_0 hc0 hc1 hz hc3)
     have hpb : PreB bs wide := ⟨⟨hv, fun b hb => hob b hb, hl60⟩, hwb⟩
     have hm0 := htsI_pos (a := a) (b := b) (show 0 < bs.length by omega)
     obtain ⟨KK, hKK⟩ : ∃ KK, KK = min 6 (htsI a b bs).length := ⟨_, rfl⟩
     refine awp_skip ?_
     refine awp_seq ?_
     refine r1 T0_ok hP hm hN ?_
     refine g1 ?_
     refine awp_seq ?_
     refine r1 T0_ok hP hm hN ?_
     refine g1 ?_
     refine awp_seq ?_
     refine awp_seq ?_
     refine r1 T0_ok hP hm hN ?_
     refine g1 ?_
     refine awp_block ?_
     refine awp_loop (fun n st => ∃ k : Nat, k ≤ KK ∧ n = KK - k ∧ st = ⟨[(9, bD k), (10, .val (.int .i64 (lowF a b c bs wide k).2)), (11, .val (.int .i64 (((k + 1) : Nat) : Int))), (3, .ptr 0 0 0), (4, .ptr 1 0 0), (5, .ptr 2 0 0)], [(3, ⟨2, 1, false, i64s ((lowF a b c bs wide k).1)⟩), (2, ⟨2, 1, true, [[.val (.int .i64 wide)]]⟩), (1, ⟨28, 1, true, [[.sl 8 (bks bs)]]⟩), (0, ⟨26, 3, true, [[.val (.int .i16 a), .val (.int .i16 b), .val (.int .i16 c)]]⟩)], 4⟩) KK ⟨_, Weak.trans (weak_nil 6 2 1 rfl) (weak_sl (sub_cons rfl (sub_cons rfl (sub_cons rfl (sub_cons rfl (sub_cons rfl (sub_cons rfl (sub_nil)))))))), 0, by omega, rfl, rfl⟩ ?_
     rintro n st ⟨k, hik, hn, rfl⟩
     have hlf := lowF_len wide hok hob hl60 k (by omega) (by omega)
     refine awp_seq ?_
     refine awp_seq ?_
     obtain hk0 | hk1 : k = 0 ∨ 1 ≤ k := by omega
     ·
      have hb : bD k = .nil := by rw [hk0]; rfl
      rw [hb]
      refine r1 T0_ok hP hm hN ?_
      iterate 3 refine g1 ?_
      refine gc1 ?_ (call1 ok_I_Pegs_heightsOf ((_, _, _), _) [] (hpre := by (try dsimp only); exact ⟨hok, hp, hv, by omega⟩))
      iterate 3 refine g1 ?_
      refine awp_cond rfl (fun hc4 => ?_) (fun hc4 => ?_)
      ·
       have hle : k + 1 ≤ KK := by have h := hc4; simp only [decide_eq_true_eq] at h; omega
       refine awp_skip ?_
       refine awp_seq ?_
       refine awp_block ?_
       refine awp_seq ?_
       refine r1 T0_ok hP hm hN ?_
       iterate 3 refine g1 ?_
       refine gc1 ?_ (call1 ok_I_Pegs_bestHeights ((_, _, _), _, k + 1) [] (hpre := by (try dsimp only); exact ⟨⟨hok, hp, hv, hob, hl60⟩, by omega, by omega⟩))
       iterate 5 refine g1 ?_
       refine awp_seq ?_
       have hbl := (best_facts hok hob hl60 (show 1 ≤ k + 1 by omega) (by omega) (by omega)).1
       have hpg := best_preG hok hv hob hl60 (show 1 ≤ k + 1 by omega) (by omega) (by omega)
       have hag := best_all hok hob hl60 (show 1 ≤ k + 1 by omega) (by omega) (by omega)
       have hkg : kG (bestL a b bs (k + 1)) bs = k + 1 := by rw [kG, ask_true hag, if_pos rfl, hbl]
       refine awp_weak (weak_nx (nx' := 29) (by omega) (by rfl)) ?_
       refine r1 T0_ok hP hm hN ?_
       iterate 2 refine g1 ?_
       refine gc1 ?_ (call_groups (bestL a b bs (k + 1)) bs hkg rfl rfl ⟨hv, by omega, by omega, by omega⟩ (by exact args_cons (by first | exact arga_val | exact arga_slsl | exact arga_nil | exact arga_slown (by simp) rfl rfl rfl rfl | exact arga_own rfl | exact arga_slnil | exact argc_rptr (by simp) rfl rfl rfl (.inr (by simp [hf])) | exact argA_self rfl) (args_cons (by first | exact arga_val | exact arga_slsl | exact arga_nil | exact arga_slown (by simp) rfl rfl rfl rfl | exact arga_own rfl | exact arga_slnil | exact argc_rptr (by simp) rfl rfl rfl (.inr (by simp [hf])) | exact argA_self rfl) (args_nil))))
       iterate 5 refine g1 ?_
       refine awp_seq ?_
       first
         | refine awp_weak (show Weak C _ ⟨[(14, .own 29), (12, .own 5), (9, .nil), (10, .val (.int .i64 (lowF a b c bs wide k).2)), (11, .val (.int .i64 (((k + 1) : Nat) : Int))), (3, .ptr 0 0 0), (4, .ptr 1 0 0), (5, .ptr 2 0 0)], [(29, ⟨31, 1, false, i64ss (grpL (bestL a b bs (k + 1)) bs)⟩), (5, ⟨2, 1, false, i64s ((bestL a b bs (k + 1)))⟩), (4, ⟨2, 1, false, i64s (htsI a b bs)⟩), (3, ⟨2, 1, false, i64s ((lowF a b c bs wide k).1)⟩), (2, ⟨2, 1, true, [[.val (.int .i64 wide)]]⟩), (1, ⟨28, 1, true, [[.sl 8 (bks bs)]]⟩), (0, ⟨26, 3, true, [[.val (.int .i16 a), .val (.int .i16 b), .val (.int .i16 c)]]⟩)], 30⟩ from Weak.trans (show Weak C _ ⟨[(14, .own 29), (12, .own 5), (9, .nil), (10, .val (.int .i64 (lowF a b c bs wide k).2)), (11, .val (.int .i64 (((k + 1) : Nat) : Int))), (3, .ptr 0 0 0), (4, .ptr 1 0 0), (5, .ptr 2 0 0)], _, _⟩ from weak_sl (sub_cons rfl (sub_cons rfl (sub_cons rfl (sub_cons rfl (sub_cons rfl (sub_cons rfl (sub_cons rfl (sub_cons rfl (sub_nil)))))))))) (by rw [grpL_tab, hbl]; exact weak_frzR hS0 hG (by omega) (by omega) (fun c xs hc => by rcases (show c = 0 ∨ c = 1 ∨ c = 2 ∨ c = 3 ∨ c = 4 ∨ c = 5 from by omega) with rfl | rfl | rfl | rfl | rfl | rfl <;> rfl) (fun c xs hc => by rcases (show c = 0 ∨ c = 1 ∨ c = 2 ∨ c = 3 ∨ c = 4 ∨ c = 5 from by omega) with rfl | rfl | rfl | rfl | rfl | rfl <;> rfl) (by rfl))) ?_
         | refine awp_weak (show Weak C _ ⟨[(14, .own 29), (12, .own 5), (9, .own 3), (10, .val (.int .i64 (lowF a b c bs wide k).2)), (11, .val (.int .i64 (((k + 1) : Nat) : Int))), (3, .ptr 0 0 0), (4, .ptr 1 0 0), (5, .ptr 2 0 0)], [(29, ⟨31, 1, false, i64ss (grpL (bestL a b bs (k + 1)) bs)⟩), (5, ⟨2, 1, false, i64s ((bestL a b bs (k + 1)))⟩), (4, ⟨2, 1, false, i64s (htsI a b bs)⟩), (3, ⟨2, 1, false, i64s ((lowF a b c bs wide k).1)⟩), (2, ⟨2, 1, true, [[.val (.int .i64 wide)]]⟩), (1, ⟨28, 1, true, [[.sl 8 (bks bs)]]⟩), (0, ⟨26, 3, true, [[.val (.int .i16 a), .val (.int .i16 b), .val (.int .i16 c)]]⟩)], 30⟩ from Weak.trans (show Weak C _ ⟨[(14, .own 29), (12, .own 5), (9, .own 3), (10, .val (.int .i64 (lowF a b c bs wide k).2)), (11, .val (.int .i64 (((k + 1) : Nat) : Int))), (3, .ptr 0 0 0), (4, .ptr 1 0 0), (5, .ptr 2 0 0)], _, _⟩ from weak_sl (sub_cons rfl (sub_cons rfl (sub_cons rfl (sub_cons rfl (sub_cons rfl (sub_cons rfl (sub_cons rfl (sub_cons rfl (sub_nil)))))))))) (by rw [grpL_tab, hbl]; exact weak_frzR hS0 hG (by omega) (by omega) (fun c xs hc => by rcases (show c = 0 ∨ c = 1 ∨ c = 2 ∨ c = 3 ∨ c = 4 ∨ c = 5 from by omega) with rfl | rfl | rfl | rfl | rfl | rfl <;> rfl) (fun c xs hc => by rcases (show c = 0 ∨ c = 1 ∨ c = 2 ∨ c = 3 ∨ c = 4 ∨ c = 5 from by omega) with rfl | rfl | rfl | rfl | rfl | rfl <;> rfl) (by rfl))) ?_
       refine awp_draw T0_ok hP hm hN Pr_mix [0, 1, 2, 3, 4, 5, 6, 7, 8, 9, 10, 11] [3, 4, 5] _ rfl (by rfl) ?_
       iterate 3 refine d1 T0_ok ?_
       refine dp1 ?_ (oprel_astep T0_ok (by rfl) rfl (by first | trivial | rfl | exact ⟨rfl, rfl⟩ | exact ⟨rfl, rfl, fun _ => rfl, Nat.le_of_ble_eq_true rfl, .inl rfl⟩ | exact ⟨rfl, rfl, fun h => (nomatch h), Nat.le_of_ble_eq_true rfl, .inl rfl⟩ | exact ⟨rfl, rfl, fun _ => rfl, Nat.le_of_ble_eq_true rfl, .inr rfl⟩ | exact ⟨rfl, rfl, fun h => (nomatch h), Nat.le_of_ble_eq_true rfl, .inr rfl⟩ | omega | exact ⟨rfl, by (repeat (first | exact fm_nil | refine fm_cons ⟨rfl, rfl⟩ ?_)), Nat.le_of_ble_eq_true rfl, Nat.le_of_ble_eq_true rfl⟩ | (refine ⟨?_, ?_, ?_, ?_, ?_, ?_, ?_⟩ <;> first | omega | exact Nat.le_of_ble_eq_true rfl) | exact ⟨rfl, by omega, by (try simp only [List.length_map, List.length_set]); omega⟩ | exact ⟨rfl, by omega, by simp only [Int.toNat_natCast]; omega, by omega, Nat.le_of_ble_eq_true rfl, rfl⟩))
       refine dp1 ?_ (call1 ok_I_each_int64_int64 (grpL (bestL a b bs (k + 1)) bs, (55, [.rptr 1 [[.sl 8 (bks bs)]] 0 0, .rptr 1 [[.val (.int .i64 wide)]] 0 0]), nedI bs wide, QOk bs) [] (hpre := by (try dsimp only); exact ⟨by show (grpL _ _).length ≤ _; rw [grpF_len]; omega, grpL_ok hpg.1.2.2, does_low hpb⟩))
       refine dp1 ?_ (call1 ok_I_Pegs_tall ((_, _, _), _, _) [] (hpre := by (try dsimp only); exact ⟨hp, by omega, by rw [List.length_map, grpF_len]⟩))
       refine d1 T0_ok ?_
       refine dreg_nil ?_
       refine awp_seq ?_
       refine awp_sreg rfl ?_
       refine sg1 T0_ok hP hm hN ?_
       first
         | refine sreg_eqnil (b := true) T0_ok hP hN (by decide) rfl (.inl ⟨rfl, rfl⟩) ?_
         | refine sreg_eqnil (b := false) T0_ok hP hN (by decide) rfl (.inr ⟨3, _, rfl, rfl, (fun e => by have h := congrArg List.length e; simp only [List.length_map, List.length_nil] at h; have := hlf.2 hk1; omega), rfl⟩) ?_
       refine sreg_rest T0_ok hP hm hN ?_
       refine g1 ?_
       first | refine gy1 ?_ | refine areg_not rfl rfl (by simp +decide (disch := omega) only [nrm, lk_nrm, dc_nrm, mk_nrm, mf_nrm, ti_nrm, ls_nrm, mp_nrm, nb_nrm, hset, pick_and, pick_or, ↓reduceIte, Nat.reduceAdd, wI64, wI32, wI16, wI8, wU8, List.length_map, Int.toNat_natCast, xn1, xn2]; rfl) ?_
       first | refine gy1 ?_ | refine areg_not rfl rfl (by simp +decide (disch := omega) only [nrm, lk_nrm, dc_nrm, mk_nrm, mf_nrm, ti_nrm, ls_nrm, mp_nrm, nb_nrm, hset, pick_and, pick_or, ↓reduceIte, Nat.reduceAdd, wI64, wI32, wI16, wI8, wU8, List.length_map, Int.toNat_natCast, xn1, xn2]; rfl) ?_
       first | refine gy1 ?_ | refine areg_not rfl rfl (by simp +decide (disch := omega) only [nrm, lk_nrm, dc_nrm, mk_nrm, mf_nrm, ti_nrm, ls_nrm, mp_nrm, nb_nrm, hset, pick_and, pick_or, ↓reduceIte, Nat.reduceAdd, wI64, wI32, wI16, wI8, wU8, List.length_map, Int.toNat_natCast, xn1, xn2]; rfl) ?_
       refine g1 ?_
       refine awp_cond rfl (fun hc5 => ?_) (fun hc5 => ?_)
       ·
        have hyes : k = 0 ∨ lowT a b c bs wide (k + 1) < (lowF a b c bs wide k).2 := by first | exact .inl hk0 | exact .inr (of_decide_eq_true hc5)
        refine r1 T0_ok hP hm hN ?_
        iterate 4 refine g1 ?_
        refine r1 T0_ok hP hm hN ?_
        iterate 3 refine g1 ?_
        first
          | exact absurd hc5 (by decide)
          | exact ⟨KK - (k + 1), _, by omega, (by rw [lowF_yes hyes]; exact Weak.trans (weak_drop 30) (Weak.trans (weak_drop 29) (Weak.trans (weak_drop 4) (Weak.trans (weak_drop 3) (Weak.trans (weak_swap 3 5 (by omega) (by omega) (by omega) (by omega)) (Weak.trans (weak_nx (nx' := 4) (by omega) (by rfl)) (weak_sl (sub_cons rfl (sub_cons rfl (sub_cons rfl (sub_cons rfl (sub_cons rfl (sub_cons rfl (sub_nil)))))))))))))), k + 1, by omega, rfl, rfl⟩
          | exact ⟨KK - (k + 1), _, by omega, (by rw [lowF_no (by omega) hno]; exact Weak.trans (weak_drop 30) (Weak.trans (weak_drop 29) (Weak.trans (weak_drop 5) (Weak.trans (weak_drop 4) (Weak.trans (weak_nx (nx' := 4) (by omega) (by rfl)) (weak_sl (sub_cons rfl (sub_cons rfl (sub_cons rfl (sub_cons rfl (sub_cons rfl (sub_cons rfl (sub_nil))))))))))))), k + 1, by omega, rfl, rfl⟩
       ·
        have hno : ¬ lowT a b c bs wide (k + 1) < (lowF a b c bs wide k).2 := by first | exact absurd hc5 (by decide) | exact of_decide_eq_false hc5
        refine awp_skip ?_
        refine r1 T0_ok hP hm hN ?_
        iterate 3 refine g1 ?_
        first
          | exact absurd hc5 (by decide)
          | exact ⟨KK - (k + 1), _, by omega, (by rw [lowF_yes hyes]; exact Weak.trans (weak_drop 30) (Weak.trans (weak_drop 29) (Weak.trans (weak_drop 4) (Weak.trans (weak_drop 3) (Weak.trans (weak_swap 3 5 (by omega) (by omega) (by omega) (by omega)) (Weak.trans (weak_nx (nx' := 4) (by omega) (by rfl)) (weak_sl (sub_cons rfl (sub_cons rfl (sub_cons rfl (sub_cons rfl (sub_cons rfl (sub_cons rfl (sub_nil)))))))))))))), k + 1, by omega, rfl, rfl⟩
          | exact ⟨KK - (k + 1), _, by omega, (by rw [lowF_no (by omega) hno]; exact Weak.trans (weak_drop 30) (Weak.trans (weak_drop 29) (Weak.trans (weak_drop 5) (Weak.trans (weak_drop 4) (Weak.trans (weak_nx (nx' := 4) (by omega) (by rfl)) (weak_sl (sub_cons rfl (sub_cons rfl (sub_cons rfl (sub_cons rfl (sub_cons rfl (sub_cons rfl (sub_nil))))))))))))), k + 1, by omega, rfl, rfl⟩
      ·
       have hge : ¬ k + 1 ≤ KK := by have h := hc4; simp only [decide_eq_false_iff_not] at h; omega
       have hkK : k = KK := by omega
       have hr2 : lowR a b c bs wide = ((lowF a b c bs wide k).1, (lowF a b c bs wide k).2, 0) := by rw [hr, ← hKK, hkK]
       refine awp_exit ?_
       repeat refine thenA_exit ?_
       refine blockA_hit ?_
       refine awp_seq ?_
       refine r1 T0_ok hP hm hN ?_
       iterate 5 refine g1 ?_
       refine awp_ret ?_
       first
         | (exfalso; omega)
         | (refine fin_mk [3] rfl rfl ?_ (by simp only [hr2]; exact objs_cons rfl rfl rfl rfl rfl (.inl rfl) objs_nil) (by decide); show D.tup [_, .val (.int .i64 (lowR a b c bs wide).2.1), .val (.int .i64 (lowR a b c bs wide).2.2)] = _; rw [hr2]; rfl)
     ·
      have hb : bD k = .own 3 := bD_pos hk1
      rw [hb]
      refine r1 T0_ok hP hm hN ?_
      iterate 3 refine g1 ?_
      refine gc1 ?_ (call1 ok_I_Pegs_heightsOf ((_, _, _), _) [] (hpre := by (try dsimp only); exact ⟨hok, hp, hv, by omega⟩))
      iterate 3 refine g1 ?_
      refine awp_cond rfl (fun hc4 => ?_) (fun hc4 => ?_)
      ·
       have hle : k + 1 ≤ KK := by have h := hc4; simp only [decide_eq_true_eq] at h; omega
       refine awp_skip ?_
       refine awp_seq ?_
       refine awp_block ?_
       refine awp_seq ?_
       refine r1 T0_ok hP hm hN ?_
       iterate 3 refine g1 ?_
       refine gc1 ?_ (call1 ok_I_Pegs_bestHeights ((_, _, _), _, k + 1) [] (hpre := by (try dsimp only); exact ⟨⟨hok, hp, hv, hob, hl60⟩, by omega, by omega⟩))
       iterate 5 refine g1 ?_
       refine awp_seq ?_
       have hbl := (best_facts hok hob hl60 (show 1 ≤ k + 1 by omega) (by omega) (by omega)).1
       have hpg := best_preG hok hv hob hl60 (show 1 ≤ k + 1 by omega) (by omega) (by omega)
       have hag := best_all hok hob hl60 (show 1 ≤ k + 1 by omega) (by omega) (by omega)
       have hkg : kG (bestL a b bs (k + 1)) bs = k + 1 := by rw [kG, ask_true hag, if_pos rfl, hbl]
       refine awp_weak (weak_nx (nx' := 29) (by omega) (by rfl)) ?_
       refine r1 T0_ok hP hm hN ?_
       iterate 2 refine g1 ?_
       refine gc1 ?_ (call_groups (bestL a b bs (k + 1)) bs hkg rfl rfl ⟨hv, by omega, by omega, by omega⟩ (by exact args_cons (by first | exact arga_val | exact arga_slsl | exact arga_nil | exact arga_slown (by simp) rfl rfl rfl rfl | exact arga_own rfl | exact arga_slnil | exact argc_rptr (by simp) rfl rfl rfl (.inr (by simp [hf])) | exact argA_self rfl) (args_cons (by first | exact arga_val | exact arga_slsl | exact arga_nil | exact arga_slown (by simp) rfl rfl rfl rfl | exact arga_own rfl | exact arga_slnil | exact argc_rptr (by simp) rfl rfl rfl (.inr (by simp [hf])) | exact argA_self rfl) (args_nil))))
       iterate 5 refine g1 ?_
       refine awp_seq ?_
       first
         | refine awp_weak (show Weak C _ ⟨[(14, .own 29), (12, .own 5), (9, .nil), (10, .val (.int .i64 (lowF a b c bs wide k).2)), (11, .val (.int .i64 (((k + 1) : Nat) : Int))), (3, .ptr 0 0 0), (4, .ptr 1 0 0), (5, .ptr 2 0 0)], [(29, ⟨31, 1, false, i64ss (grpL (bestL a b bs (k + 1)) bs)⟩), (5, ⟨2, 1, false, i64s ((bestL a b bs (k + 1)))⟩), (4, ⟨2, 1, false, i64s (htsI a b bs)⟩), (3, ⟨2, 1, false, i64s ((lowF a b c bs wide k).1)⟩), (2, ⟨2, 1, true, [[.val (.int .i64 wide)]]⟩), (1, ⟨28, 1, true, [[.sl 8 (bks bs)]]⟩), (0, ⟨26, 3, true, [[.val (.int .i16 a), .val (.int .i16 b), .val (.int .i16 c)]]⟩)], 30⟩ from Weak.trans (show Weak C _ ⟨[(14, .own 29), (12, .own 5), (9, .nil), (10, .val (.int .i64 (lowF a b c bs wide k).2)), (11, .val (.int .i64 (((k + 1) : Nat) : Int))), (3, .ptr 0 0 0), (4, .ptr 1 0 0), (5, .ptr 2 0 0)], _, _⟩ from weak_sl (sub_cons rfl (sub_cons rfl (sub_cons rfl (sub_cons rfl (sub_cons rfl (sub_cons rfl (sub_cons rfl (sub_cons rfl (sub_nil)))))))))) (by rw [grpL_tab, hbl]; exact weak_frzR hS0 hG (by omega) (by omega) (fun c xs hc => by rcases (show c = 0 ∨ c = 1 ∨ c = 2 ∨ c = 3 ∨ c = 4 ∨ c = 5 from by omega) with rfl | rfl | rfl | rfl | rfl | rfl <;> rfl) (fun c xs hc => by rcases (show c = 0 ∨ c = 1 ∨ c = 2 ∨ c = 3 ∨ c = 4 ∨ c = 5 from by omega) with rfl | rfl | rfl | rfl | rfl | rfl <;> rfl) (by rfl))) ?_
         | refine awp_weak (show Weak C _ ⟨[(14, .own 29), (12, .own 5), (9, .own 3), (10, .val (.int .i64 (lowF a b c bs wide k).2)), (11, .val (.int .i64 (((k + 1) : Nat) : Int))), (3, .ptr 0 0 0), (4, .ptr 1 0 0), (5, .ptr 2 0 0)], [(29, ⟨31, 1, false, i64ss (grpL (bestL a b bs (k + 1)) bs)⟩), (5, ⟨2, 1, false, i64s ((bestL a b bs (k + 1)))⟩), (4, ⟨2, 1, false, i64s (htsI a b bs)⟩), (3, ⟨2, 1, false, i64s ((lowF a b c bs wide k).1)⟩), (2, ⟨2, 1, true, [[.val (.int .i64 wide)]]⟩), (1, ⟨28, 1, true, [[.sl 8 (bks bs)]]⟩), (0, ⟨26, 3, true, [[.val (.int .i16 a), .val (.int .i16 b), .val (.int .i16 c)]]⟩)], 30⟩ from Weak.trans (show Weak C _ ⟨[(14, .own 29), (12, .own 5), (9, .own 3), (10, .val (.int .i64 (lowF a b c bs wide k).2)), (11, .val (.int .i64 (((k + 1) : Nat) : Int))), (3, .ptr 0 0 0), (4, .ptr 1 0 0), (5, .ptr 2 0 0)], _, _⟩ from weak_sl (sub_cons rfl (sub_cons rfl (sub_cons rfl (sub_cons rfl (sub_cons rfl (sub_cons rfl (sub_cons rfl (sub_cons rfl (sub_nil)))))))))) (by rw [grpL_tab, hbl]; exact weak_frzR hS0 hG (by omega) (by omega) (fun c xs hc => by rcases (show c = 0 ∨ c = 1 ∨ c = 2 ∨ c = 3 ∨ c = 4 ∨ c = 5 from by omega) with rfl | rfl | rfl | rfl | rfl | rfl <;> rfl) (fun c xs hc => by rcases (show c = 0 ∨ c = 1 ∨ c = 2 ∨ c = 3 ∨ c = 4 ∨ c = 5 from by omega) with rfl | rfl | rfl | rfl | rfl | rfl <;> rfl) (by rfl))) ?_
       refine awp_draw T0_ok hP hm hN Pr_mix [0, 1, 2, 3, 4, 5, 6, 7, 8, 9, 10, 11] [3, 4, 5] _ rfl (by rfl) ?_
       iterate 3 refine d1 T0_ok ?_
       refine dp1 ?_ (oprel_astep T0_ok (by rfl) rfl (by first | trivial | rfl | exact ⟨rfl, rfl⟩ | exact ⟨rfl, rfl, fun _ => rfl, Nat.le_of_ble_eq_true rfl, .inl rfl⟩ | exact ⟨rfl, rfl, fun h => (nomatch h), Nat.le_of_ble_eq_true rfl, .inl rfl⟩ | exact ⟨rfl, rfl, fun _ => rfl, Nat.le_of_ble_eq_true rfl, .inr rfl⟩ | exact ⟨rfl, rfl, fun h => (nomatch h), Nat.le_of_ble_eq_true rfl, .inr rfl⟩ | omega | exact ⟨rfl, by (repeat (first | exact fm_nil | refine fm_cons ⟨rfl, rfl⟩ ?_)), Nat.le_of_ble_eq_true rfl, Nat.le_of_ble_eq_true rfl⟩ | (refine ⟨?_, ?_, ?_, ?_, ?_, ?_, ?_⟩ <;> first | omega | exact Nat.le_of_ble_eq_true rfl) | exact ⟨rfl, by omega, by (try simp only [List.length_map, List.length_set]); omega⟩ | exact ⟨rfl, by omega, by simp only [Int.toNat_natCast]; omega, by omega, Nat.le_of_ble_eq_true rfl, rfl⟩))
       refine dp1 ?_ (call1 ok_I_each_int64_int64 (grpL (bestL a b bs (k + 1)) bs, (55, [.rptr 1 [[.sl 8 (bks bs)]] 0 0, .rptr 1 [[.val (.int .i64 wide)]] 0 0]), nedI bs wide, QOk bs) [] (hpre := by (try dsimp only); exact ⟨by show (grpL _ _).length ≤ _; rw [grpF_len]; omega, grpL_ok hpg.1.2.2, does_low hpb⟩))
       refine dp1 ?_ (call1 ok_I_Pegs_tall ((_, _, _), _, _) [] (hpre := by (try dsimp only); exact ⟨hp, by omega, by rw [List.length_map, grpF_len]⟩))
       refine d1 T0_ok ?_
       refine dreg_nil ?_
       refine awp_seq ?_
       refine awp_sreg rfl ?_
       refine sg1 T0_ok hP hm hN ?_
       first
         | refine sreg_eqnil (b := true) T0_ok hP hN (by decide) rfl (.inl ⟨rfl, rfl⟩) ?_
         | refine sreg_eqnil (b := false) T0_ok hP hN (by decide) rfl (.inr ⟨3, _, rfl, rfl, (fun e => by have h := congrArg List.length e; simp only [List.length_map, List.length_nil] at h; have := hlf.2 hk1; omega), rfl⟩) ?_
       refine sreg_rest T0_ok hP hm hN ?_
       refine g1 ?_
       first | refine gy1 ?_ | refine areg_not rfl rfl (by simp +decide (disch := omega) only [nrm, lk_nrm, dc_nrm, mk_nrm, mf_nrm, ti_nrm, ls_nrm, mp_nrm, nb_nrm, hset, pick_and, pick_or, ↓reduceIte, Nat.reduceAdd, wI64, wI32, wI16, wI8, wU8, List.length_map, Int.toNat_natCast, xn1, xn2]; rfl) ?_
       first | refine gy1 ?_ | refine areg_not rfl rfl (by simp +decide (disch := omega) only [nrm, lk_nrm, dc_nrm, mk_nrm, mf_nrm, ti_nrm, ls_nrm, mp_nrm, nb_nrm, hset, pick_and, pick_or, ↓reduceIte, Nat.reduceAdd, wI64, wI32, wI16, wI8, wU8, List.length_map, Int.toNat_natCast, xn1, xn2]; rfl) ?_
       first | refine gy1 ?_ | refine areg_not rfl rfl (by simp +decide (disch := omega) only [nrm, lk_nrm, dc_nrm, mk_nrm, mf_nrm, ti_nrm, ls_nrm, mp_nrm, nb_nrm, hset, pick_and, pick_or, ↓reduceIte, Nat.reduceAdd, wI64, wI32, wI16, wI8, wU8, List.length_map, Int.toNat_natCast, xn1, xn2]; rfl) ?_
       refine g1 ?_
       refine awp_cond rfl (fun hc5 => ?_) (fun hc5 => ?_)
       ·
        have hyes : k = 0 ∨ lowT a b c bs wide (k + 1) < (lowF a b c bs wide k).2 := by first | exact .inl hk0 | exact .inr (of_decide_eq_true hc5)
        refine r1 T0_ok hP hm hN ?_
        iterate 4 refine g1 ?_
        refine r1 T0_ok hP hm hN ?_
        iterate 3 refine g1 ?_
        first
          | exact absurd hc5 (by decide)
          | exact ⟨KK - (k + 1), _, by omega, (by rw [lowF_yes hyes]; exact Weak.trans (weak_drop 30) (Weak.trans (weak_drop 29) (Weak.trans (weak_drop 4) (Weak.trans (weak_drop 3) (Weak.trans (weak_swap 3 5 (by omega) (by omega) (by omega) (by omega)) (Weak.trans (weak_nx (nx' := 4) (by omega) (by rfl)) (weak_sl (sub_cons rfl (sub_cons rfl (sub_cons rfl (sub_cons rfl (sub_cons rfl (sub_cons rfl (sub_nil)))))))))))))), k + 1, by omega, rfl, rfl⟩
          | exact ⟨KK - (k + 1), _, by omega, (by rw [lowF_no (by omega) hno]; exact Weak.trans (weak_drop 30) (Weak.trans (weak_drop 29) (Weak.trans (weak_drop 5) (Weak.trans (weak_drop 4) (Weak.trans (weak_nx (nx' := 4) (by omega) (by rfl)) (weak_sl (sub_cons rfl (sub_cons rfl (sub_cons rfl (sub_cons rfl (sub_cons rfl (sub_cons rfl (sub_nil))))))))))))), k + 1, by omega, rfl, rfl⟩
       ·
        have hno : ¬ lowT a b c bs wide (k + 1) < (lowF a b c bs wide k).2 := by first | exact absurd hc5 (by decide) | exact of_decide_eq_false hc5
        refine awp_skip ?_
        refine r1 T0_ok hP hm hN ?_
        iterate 3 refine g1 ?_
        first
          | exact absurd hc5 (by decide)
          | exact ⟨KK - (k + 1), _, by omega, (by rw [lowF_yes hyes]; exact Weak.trans (weak_drop 30) (Weak.trans (weak_drop 29) (Weak.trans (weak_drop 4) (Weak.trans (weak_drop 3) (Weak.trans (weak_swap 3 5 (by omega) (by omega) (by omega) (by omega)) (Weak.trans (weak_nx (nx' := 4) (by omega) (by rfl)) (weak_sl (sub_cons rfl (sub_cons rfl (sub_cons rfl (sub_cons rfl (sub_cons rfl (sub_cons rfl (sub_nil)))))))))))))), k + 1, by omega, rfl, rfl⟩
          | exact ⟨KK - (k + 1), _, by omega, (by rw [lowF_no (by omega) hno]; exact Weak.trans (weak_drop 30) (Weak.trans (weak_drop 29) (Weak.trans (weak_drop 5) (Weak.trans (weak_drop 4) (Weak.trans (weak_nx (nx' := 4) (by omega) (by rfl)) (weak_sl (sub_cons rfl (sub_cons rfl (sub_cons rfl (sub_cons rfl (sub_cons rfl (sub_cons rfl (sub_nil))))))))))))), k + 1, by omega, rfl, rfl⟩
      ·
       have hge : ¬ k + 1 ≤ KK := by have h := hc4; simp only [decide_eq_false_iff_not] at h; omega
       have hkK : k = KK := by omega
       have hr2 : lowR a b c bs wide = ((lowF a b c bs wide k).1, (lowF a b c bs wide k).2, 0) := by rw [hr, ← hKK, hkK]
       refine awp_exit ?_
       repeat refine thenA_exit ?_
       refine blockA_hit ?_
       refine awp_seq ?_
       refine r1 T0_ok hP hm hN ?_
       iterate 5 refine g1 ?_
       refine awp_ret ?_
       first
         | (exfalso; omega)
         | (refine fin_mk [3] rfl rfl ?_ (by simp only [hr2]; exact objs_cons rfl rfl rfl rfl rfl (.inl rfl) objs_nil) (by decide); show D.tup [_, .val (.int .i64 (lowR a b c bs wide).2.1), .val (.int .i64 (lowR a b c bs wide).2.2)] = _; rw [hr2]; rfl)
end Go.Proofs.YtheoapoddmmahaaGreat.Abs

