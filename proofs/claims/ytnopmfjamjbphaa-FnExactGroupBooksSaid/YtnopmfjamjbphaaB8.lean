import Derived.Test.YtnopmfjamjbphaaB7
set_option linter.unusedVariables false
set_option linter.unusedSimpArgs false
namespace Go.Proofs.Ytnopmfjamjbphaa.Abs
open Go Go.RowKit
noncomputable abbrev s_L_FnExactGroupBooksN4 : Spec ((Int × Int × Int) × List Int × List Bk) where
  args := fun x => [pegs x.1, .sl 1 (i64s x.2.1), .sl 8 (bks x.2.2)]
  pre := fun x => isPegs x.1 ∧ (I64s x.2.1 ∧ x.2.1.length ≤ 9223372036854775807) ∧ ((∀ b ∈ x.2.2, isBk b) ∧ x.2.2.length ≤ 9223372036854775807) ∧ nG x.1.1 x.1.2.1 x.1.2.2 x.2.1 x.2.2 = 4
  res := fun x => .val (.bool true)

set_option maxRecDepth 20000 in
set_option maxHeartbeats 16000000 in
theorem ok_L_FnExactGroupBooksN4 : FnOk Pr 3 s_L_FnExactGroupBooksN4 := by
  refine fn_ok0 3 T0_ok Go.Proofs.Try.func3 rfl (enters_of Go.Proofs.Try.func3 rfl rfl) (fun _ => rfl) (fun _ => rfl) (fun _ => rfl) ?_
  rintro ⟨⟨a, b, c⟩, hs, bs⟩ ⟨hp, ⟨_, hhl0⟩, ⟨hv, hl0⟩, hn⟩ C hP hN hm hG hS0
  change awp C _ _ ⟨[(0, .val (.agg #[.int .i16 a, .int .i16 b, .int .i16 c])), (1, .sl 1 (i64s hs)), (2, .sl 8 (bks bs))], [], 0⟩
  simp only at hhl0 hv hl0 hn
  have hnG : nG a b c hs bs = 4 := hn
  have hgb : gbL a b c hs bs = [rwG hs bs 0, rwG hs bs 1, rwG hs bs 2, rwG hs bs 3] := by rw [gbL_eq, hnG]; rfl
  have hfl : ∀ j, (rwG hs bs j).length ≤ bs.length := fun j => selK_len _ _ _
  refine awp_seq ?_
  refine r1 T0_ok hP hm hN ?_
  refine g1 ?_
  refine g1 ?_
  refine awp_seq ?_
  refine awp_seq ?_
  refine r1 T0_ok hP hm hN ?_
  refine g1 ?_
  refine g1 ?_
  refine g1 ?_
  refine awp_cond rfl (fun hc0 => ?_) (fun hc0 => ?_)
  · skip
    refine awp_seq ?_
    refine r1 T0_ok hP hm hN ?_
    refine g1 ?_
    refine awp_ret ?_
    refine fin_mk [] rfl rfl ?_ trivial (by decide)
    rfl
  · skip
    have hhl : hs.length ≤ 1048576 := by simp only [decide_eq_false_iff_not] at hc0; omega
    refine awp_skip ?_
    refine awp_seq ?_
    refine r1 T0_ok hP hm hN ?_
    refine g1 ?_
    refine awp_seq ?_
    refine r1 T0_ok hP hm hN ?_
    refine g1 ?_
    refine g1 ?_
    refine gc1 ?_ (call1 ok_L_szBookS (_, _) [] (hpre := by (try dsimp only); exact ⟨hl0, by omega, by omega⟩))
    refine g1 ?_
    refine awp_seq ?_
    refine awp_seq ?_
    refine r1 T0_ok hP hm hN ?_
    refine g1 ?_
    refine g1 ?_
    refine awp_cond rfl (fun hc1 => ?_) (fun hc1 => ?_)
    · skip
      refine awp_seq ?_
      refine r1 T0_ok hP hm hN ?_
      refine g1 ?_
      refine awp_ret ?_
      refine fin_mk [] rfl rfl ?_ trivial (by decide)
      rfl
    · skip
      have hl : bs.length ≤ 1048576 := by simp only [decide_eq_false_iff_not] at hc1; split at hc1 <;> omega
      have hf2 : ∀ j, (rwG hs bs j).length ≤ 1048576 := fun j => Nat.le_trans (hfl j) hl
      have hqL : ∀ q ∈ ([rwG hs bs 0, rwG hs bs 1, rwG hs bs 2, rwG hs bs 3] : List (List Int)), q.length ≤ 1048576 := fun q hq => by
        obtain ⟨j, _, rfl⟩ := List.mem_map.1 (show q ∈ (List.range 4).map (rwG hs bs) from hq)
        exact hf2 j
      have hqM : ∀ q ∈ ([mkR (rwG hs bs) 1 0, mkR (rwG hs bs) 1 1, mkR (rwG hs bs) 1 2, mkR (rwG hs bs) 1 3] : List (List Int)), q.length ≤ 1048576 := fun q hq => by
        obtain ⟨j, _, rfl⟩ := List.mem_map.1 (show q ∈ (List.range 4).map (mkR (rwG hs bs) 1) from hq)
        rw [mkR_len]; exact hf2 j
      have hkk := kkF_b (f := rwG hs bs) (k := 1) (n := 4) (fun j _ => hf2 j) 4 (Nat.le_refl _)
      have hhv : heldV [mkR (rwG hs bs) 1 0, mkR (rwG hs bs) 1 1, mkR (rwG hs bs) 1 2, mkR (rwG hs bs) 1 3] 1 = kkF (rwG hs bs) 1 4 := heldV_marked (n := 4) (by omega) rfl
      refine awp_skip ?_
      refine awp_seq ?_
      refine awp_sreg rfl ?_
      refine sg1 T0_ok hP hm hN ?_
      refine sgc1 T0_ok hP hm hN ?_ (call1 ok_L_toPegs (_, _, _) [] (hpre := by (try dsimp only); exact hp))
      refine sg1 T0_ok hP hm hN ?_
      refine sgc1 T0_ok hP hm hN ?_ (call1 ok_L_toInt64S _ [] (hpre := by (try dsimp only); omega))
      refine sg1 T0_ok hP hm hN ?_
      refine sgc1 T0_ok hP hm hN ?_ (call1 ok_L_toBookS _ [] (hpre := by (try dsimp only); omega))
      refine sreg_weak (weak_frz 1 hS0 hG rfl (.inl rfl)) ?_
      refine sreg_weak (weak_frz 2 hS0 hG rfl (.inl rfl)) ?_
      refine sreg_callN hP hN hG ok_S_GroupBooks ((a, b, c), hs, bs) (by decide) (show _ ∧ _ from ⟨hp, by omega, hv, by omega⟩) rfl rfl rfl rfl (fm_cons rfl fm_nil) rfl rfl ?_
      refine sreg_weak (show Weak C _ ⟨[(34, .tup [.own 3, .val (.int .i64 (codeG a b c hs bs))]), (3, .ptr 0 0 0), (1, .sl 1 (i64s hs)), (2, .sl 8 (bks bs))], [(3, ⟨25, 1, false, i64ss (gbL a b c hs bs)⟩), (0, ⟨24, 3, true, [[.val (.int .i16 a), .val (.int .i16 b), .val (.int .i16 c)]]⟩)], 4⟩ from weak_sl (sub_cons rfl (sub_cons rfl (sub_cons rfl (sub_cons rfl (sub_nil)))))) ?_
      refine sreg_rest T0_ok hP hm hN ?_
      refine g1 ?_
      refine g1 ?_
      refine g1 ?_
      refine g1 ?_
      refine g1 ?_
      refine awp_seq ?_
      rw [hgb]
      refine r1 T0_ok hP hm hN ?_
      refine g1 ?_
      refine gc1 ?_ (call1 ok_L_toInt64S _ [] (hpre := by (try dsimp only); omega))
      refine g1 ?_
      refine awp_seq ?_
      refine r1 T0_ok hP hm hN ?_
      refine g1 ?_
      refine gc1 ?_ (call1 ok_L_toBookS _ [] (hpre := by (try dsimp only); omega))
      refine g1 ?_
      refine awp_seq ?_
      refine awp_weak (weak_nx (nx' := 29) (by omega) (by rfl)) ?_
      refine r1 T0_ok hP hm hN ?_
      refine g1 ?_
      refine gc1 ?_ (call1 ok_L_toPegs (_, _, _) [] (hpre := by (try dsimp only); exact hp))
      refine g1 ?_
      refine g1 ?_
      refine gc1 ?_ (call_gb a b c hs bs hnG rfl rfl ⟨hp, by omega, hv, by omega⟩ (by exact args_cons (by first | exact arga_val | exact arga_slsl | exact arga_nil | exact arga_slown (by simp) rfl rfl rfl rfl | exact arga_own rfl | exact arga_slnil | exact argc_rptr (by simp) rfl rfl rfl (.inr (by simp [hf])) | exact argA_self rfl) (args_cons (by first | exact arga_val | exact arga_slsl | exact arga_nil | exact arga_slown (by simp) rfl rfl rfl rfl | exact arga_own rfl | exact arga_slnil | exact argc_rptr (by simp) rfl rfl rfl (.inr (by simp [hf])) | exact argA_self rfl) (args_cons (by first | exact arga_val | exact arga_slsl | exact arga_nil | exact arga_slown (by simp) rfl rfl rfl rfl | exact arga_own rfl | exact arga_slnil | exact argc_rptr (by simp) rfl rfl rfl (.inr (by simp [hf])) | exact argA_self rfl) (args_nil)))))
      refine g1 ?_
      refine g1 ?_
      refine g1 ?_
      refine g1 ?_
      refine g1 ?_
      refine awp_seq ?_
      refine awp_seq ?_
      refine awp_weak (show Weak C _ ⟨[(12, .own 10), (13, .val (.int .i64 (codeG a b c hs bs))), (8, .own 3), (9, .val (.int .i64 (codeG a b c hs bs))), (10, .own 4), (11, .own 5), (3, .ptr 0 0 0), (1, .sl 1 (i64s hs)), (2, .sl 8 (bks bs))], [(10, ⟨25, 1, true, [[.own 11], [.own 12], [.own 13], [.own 14]]⟩), (11, ⟨2, 1, false, i64s (rwG hs bs 0)⟩), (12, ⟨2, 1, false, i64s (rwG hs bs 1)⟩), (13, ⟨2, 1, false, i64s (rwG hs bs 2)⟩), (14, ⟨2, 1, false, i64s (rwG hs bs 3)⟩), (5, ⟨47, 8, false, bks bs⟩), (4, ⟨2, 1, false, i64s hs⟩), (3, ⟨25, 1, false, i64ss ([rwG hs bs 0, rwG hs bs 1, rwG hs bs 2, rwG hs bs 3])⟩), (0, ⟨24, 3, true, [[.val (.int .i16 a), .val (.int .i16 b), .val (.int .i16 c)]]⟩)], 15⟩ from Weak.trans (show Weak C _ ⟨[(12, .own 29), (13, .val (.int .i64 (codeG a b c hs bs))), (8, .own 3), (9, .val (.int .i64 (codeG a b c hs bs))), (10, .own 4), (11, .own 5), (3, .ptr 0 0 0), (1, .sl 1 (i64s hs)), (2, .sl 8 (bks bs))], [(29, ⟨25, 1, true, [[.own 30], [.own 31], [.own 32], [.own 33]]⟩), (30, ⟨2, 1, false, i64s (rwG hs bs 0)⟩), (31, ⟨2, 1, false, i64s (rwG hs bs 1)⟩), (32, ⟨2, 1, false, i64s (rwG hs bs 2)⟩), (33, ⟨2, 1, false, i64s (rwG hs bs 3)⟩), (5, ⟨47, 8, false, bks bs⟩), (4, ⟨2, 1, false, i64s hs⟩), (3, ⟨25, 1, false, i64ss ([rwG hs bs 0, rwG hs bs 1, rwG hs bs 2, rwG hs bs 3])⟩), (0, ⟨24, 3, true, [[.val (.int .i16 a), .val (.int .i16 b), .val (.int .i16 c)]]⟩)], 34⟩ from weak_sl (sub_cons rfl (sub_cons rfl (sub_cons rfl (sub_cons rfl (sub_cons rfl (sub_cons rfl (sub_cons rfl (sub_cons rfl (sub_cons rfl (sub_nil))))))))))) (Weak.trans (weak_swap 29 10 (by omega) (by omega) (by omega) (by omega)) (Weak.trans (weak_swap 30 11 (by omega) (by omega) (by omega) (by omega)) (Weak.trans (weak_swap 31 12 (by omega) (by omega) (by omega) (by omega)) (Weak.trans (weak_swap 32 13 (by omega) (by omega) (by omega) (by omega)) (Weak.trans (weak_swap 33 14 (by omega) (by omega) (by omega) (by omega)) (weak_nx (nx' := 15) (by omega) (by rfl)))))))) ?_
      refine r1 T0_ok hP hm hN ?_
      refine g1 ?_
      refine g1 ?_
      refine gc1 ?_ (call1 ok_L_eqInt64SS ([rwG hs bs 0, rwG hs bs 1, rwG hs bs 2, rwG hs bs 3], [rwG hs bs 0, rwG hs bs 1, rwG hs bs 2, rwG hs bs 3]) [] (hargs := (by exact args_cons (arga_slownV (by simp) rfl rfl (rvC (cellV_own (by simp) rfl rfl rfl rfl) (rvC (cellV_own (by simp) rfl rfl rfl rfl) (rvC (cellV_own (by simp) rfl rfl rfl rfl) (rvC (cellV_own (by simp) rfl rfl rfl rfl) (rvN)))))) (args_cons (arga_slown (by simp) rfl rfl rfl rfl) args_nil))) (hpre := by (try dsimp only); exact ⟨by simp, by simp, hqL⟩))
      refine g1 ?_
      refine g1 ?_
      refine gg1 ?_
      refine gg1 ?_
      refine gg1 ?_
      refine g1 ?_
      refine awp_cond rfl (fun hc2 => ?_) (fun hc2 => ?_)
      · skip
        exfalso; first | (simp [ask] at hc2; done) | (simp [ask] at hc2; omega)
      · skip
        refine awp_skip ?_
        refine awp_seq ?_
        refine awp_seq ?_
        refine r1 T0_ok hP hm hN ?_
        refine g1 ?_
        refine g1 ?_
        refine gc1 ?_ (call1 ok_L_toInt64S _ [] (hpre := by (try dsimp only); omega))
        refine gc1 ?_ (call1 ok_L_eqInt64S (_, _) [] (hpre := by (try dsimp only); omega))
        refine g1 ?_
        refine awp_cond rfl (fun hc3 => ?_) (fun hc3 => ?_)
        · skip
          exfalso; first | (simp [ask] at hc3; done) | (simp [ask] at hc3; omega)
        · skip
          refine awp_skip ?_
          refine awp_seq ?_
          refine awp_seq ?_
          refine r1 T0_ok hP hm hN ?_
          refine g1 ?_
          refine g1 ?_
          refine gc1 ?_ (call1 ok_L_toBookS _ [] (hpre := by (try dsimp only); omega))
          refine gc1 ?_ (call1 ok_L_eqBookS (_, _) [] (hpre := by (try dsimp only); exact ⟨by omega, by omega⟩))
          refine g1 ?_
          refine awp_cond rfl (fun hc4 => ?_) (fun hc4 => ?_)
          · skip
            exfalso; first | (simp [ask] at hc4; done) | (simp [ask] at hc4; omega)
          · skip
            refine awp_skip ?_
            refine awp_seq ?_
            refine r1 T0_ok hP hm hN ?_
            refine g1 ?_
            refine awp_seq ?_
            refine r1 T0_ok hP hm hN ?_
            refine g1 ?_
            refine g1 ?_
            refine gc1 ?_ (call1 ok_L_markInt64S (hs, _) [4] (hpre := by (try dsimp only); exact ⟨by omega, by omega, by omega⟩))
            refine g1 ?_
            refine awp_seq ?_
            refine r1 T0_ok hP hm hN ?_
            refine g1 ?_
            refine g1 ?_
            refine gc1 ?_ (call1 ok_L_markBookS (bs, _) [5] (hpre := by (try dsimp only); exact ⟨by omega, by omega, by omega⟩))
            refine g1 ?_
            refine awp_seq ?_
            refine awp_seq ?_
            refine r1 T0_ok hP hm hN ?_
            refine g1 ?_
            refine g1 ?_
            refine g1 ?_
            refine gg1 ?_
            refine gg1 ?_
            refine ggc1 ?_ (hs := by intro hb; simp +decide only [hb, gd_tt, gd_ff, beq_self_eq_true, Bool.true_and, beq_true]; exact ⟨rfl, _, call1 ok_L_eqInt64SS ([rwG hs bs 0, rwG hs bs 1, rwG hs bs 2, rwG hs bs 3], [rwG hs bs 0, rwG hs bs 1, rwG hs bs 2, rwG hs bs 3]) [] (hargs := (by exact args_cons (arga_slownV (by simp) rfl rfl (rvC (cellV_own (by simp) rfl rfl rfl rfl) (rvC (cellV_own (by simp) rfl rfl rfl rfl) (rvC (cellV_own (by simp) rfl rfl rfl rfl) (rvC (cellV_own (by simp) rfl rfl rfl rfl) (rvN)))))) (args_cons (arga_slown (by simp) rfl rfl rfl rfl) args_nil))) (hpre := by (try dsimp only); exact ⟨by simp, by simp, hqL⟩), rfl, rfl, rfl⟩)
            refine gg1 ?_
            refine g1 ?_
            refine g1 ?_
            refine gg1 ?_
            refine gg1 ?_
            refine gg1 ?_
            refine g1 ?_
            refine awp_cond rfl (fun hc5 => ?_) (fun hc5 => ?_)
            · skip
              exfalso; first | (simp [ask] at hc5; done) | (simp [ask] at hc5; omega)
            · skip
              refine awp_skip ?_
              refine awp_seq ?_
              refine r1 T0_ok hP hm hN ?_
              refine g1 ?_
              refine awp_seq ?_
              refine r1 T0_ok hP hm hN ?_
              refine g1 ?_
              refine g1 ?_
              refine gc1 ?_ (call_mark4 (rwG hs bs) 1 rfl rfl ⟨fun j _ => hf2 j, by omega, by omega⟩ rfl rfl rfl rfl rfl rfl)
              refine g1 ?_
              refine awp_seq ?_
              refine r1 T0_ok hP hm hN ?_
              refine g1 ?_
              refine awp_seq ?_
              refine r1 T0_ok hP hm hN ?_
              refine g1 ?_
              refine g1 ?_
              refine gc1 ?_ (call1 ok_L_heldInt64SS ([mkR (rwG hs bs) 1 0, mkR (rwG hs bs) 1 1, mkR (rwG hs bs) 1 2, mkR (rwG hs bs) 1 3], 1) [] (hargs := (by exact args_cons (arga_slownV (by simp) rfl rfl (rvC (cellV_own (by simp) rfl rfl rfl rfl) (rvC (cellV_own (by simp) rfl rfl rfl rfl) (rvC (cellV_own (by simp) rfl rfl rfl rfl) (rvC (cellV_own (by simp) rfl rfl rfl rfl) (rvN)))))) (args_cons arga_val args_nil))) (hpre := by (try dsimp only); exact ⟨by simp, hqM, by omega, by omega⟩)) (hst := by simp +decide (disch := omega) only [nrm, lk_nrm, dc_nrm, mk_nrm, mf_nrm, ti_nrm, ls_nrm, mp_nrm, nb_nrm, hset, pick_and, pick_or, ↓reduceIte, Nat.reduceAdd, wI64, wI32, wI16, wI8, wU8, List.length_map, Int.toNat_natCast, hhv]; rfl)
              refine g1 ?_
              refine awp_seq ?_
              refine awp_seq ?_
              refine r1 T0_ok hP hm hN ?_
              refine g1 ?_
              refine g1 ?_
              refine awp_cond rfl (fun hc6 => ?_) (fun hc6 => ?_)
              · skip
                exfalso; first | (simp [ask] at hc6; done) | (simp [ask] at hc6; omega)
              · skip
                refine awp_skip ?_
                refine awp_seq ?_
                refine awp_seq ?_
                refine r1 T0_ok hP hm hN ?_
                refine g1 ?_
                refine g1 ?_
                refine g1 ?_
                refine awp_cond rfl (fun hc7 => ?_) (fun hc7 => ?_)
                · skip
                  exfalso; first | (simp [ask] at hc7; done) | (simp [ask] at hc7; omega)
                · skip
                  refine awp_skip ?_
                  refine awp_seq ?_
                  refine awp_weak (weak_nx (nx' := 27) (by omega) (by rfl)) ?_
                  refine r1 T0_ok hP hm hN ?_
                  refine g1 ?_
                  refine gc1 ?_ (call1 ok_L_toPegs (_, _, _) [] (hpre := by (try dsimp only); exact hp))
                  refine g1 ?_
                  refine gc1 ?_ (call1 ok_L_toInt64S _ [] (hpre := by (try dsimp only); omega))
                  refine g1 ?_
                  refine gc1 ?_ (call1 ok_L_toBookS _ [] (hpre := by (try dsimp only); omega))
                  refine gc1 ?_ (call_gb a b c hs bs hnG rfl rfl ⟨hp, by omega, hv, by omega⟩ (by exact args_cons (by first | exact arga_val | exact arga_slsl | exact arga_nil | exact arga_slown (by simp) rfl rfl rfl rfl | exact arga_own rfl | exact arga_slnil | exact argc_rptr (by simp) rfl rfl rfl (.inr (by simp [hf])) | exact argA_self rfl) (args_cons (by first | exact arga_val | exact arga_slsl | exact arga_nil | exact arga_slown (by simp) rfl rfl rfl rfl | exact arga_own rfl | exact arga_slnil | exact argc_rptr (by simp) rfl rfl rfl (.inr (by simp [hf])) | exact argA_self rfl) (args_cons (by first | exact arga_val | exact arga_slsl | exact arga_nil | exact arga_slown (by simp) rfl rfl rfl rfl | exact arga_own rfl | exact arga_slnil | exact argc_rptr (by simp) rfl rfl rfl (.inr (by simp [hf])) | exact argA_self rfl) (args_nil)))))
                  refine g1 ?_
                  refine g1 ?_
                  refine g1 ?_
                  refine g1 ?_
                  refine g1 ?_
                  refine awp_seq ?_
                  refine awp_seq ?_
                  refine awp_weak (show Weak C _ ⟨[(17, .own 29), (18, .val (.int .i64 (codeG a b c hs bs))), (16, .val (.int .i64 (kkF (rwG hs bs) 1 4))), (15, .val (.int .i64 (kkF (rwG hs bs) 1 4))), (12, .own 10), (13, .val (.int .i64 (codeG a b c hs bs))), (8, .own 3), (9, .val (.int .i64 (codeG a b c hs bs)))], [(29, ⟨25, 1, true, [[.own 30], [.own 31], [.own 32], [.own 33]]⟩), (30, ⟨2, 1, false, i64s (rwG hs bs 0)⟩), (31, ⟨2, 1, false, i64s (rwG hs bs 1)⟩), (32, ⟨2, 1, false, i64s (rwG hs bs 2)⟩), (33, ⟨2, 1, false, i64s (rwG hs bs 3)⟩), (10, ⟨25, 1, true, [[.own 11], [.own 12], [.own 13], [.own 14]]⟩), (11, ⟨2, 1, false, i64s (mkR (rwG hs bs) 1 0)⟩), (12, ⟨2, 1, false, i64s (mkR (rwG hs bs) 1 1)⟩), (13, ⟨2, 1, false, i64s (mkR (rwG hs bs) 1 2)⟩), (14, ⟨2, 1, false, i64s (mkR (rwG hs bs) 1 3)⟩), (3, ⟨25, 1, false, i64ss ([rwG hs bs 0, rwG hs bs 1, rwG hs bs 2, rwG hs bs 3])⟩)], 34⟩ from Weak.trans (weak_drop 28) (Weak.trans (weak_drop 27) (Weak.trans (weak_drop 16) (Weak.trans (weak_drop 15) (Weak.trans (weak_drop 5) (Weak.trans (weak_drop 4) (Weak.trans (weak_drop 0) (weak_sl (sub_cons rfl (sub_cons rfl (sub_cons rfl (sub_cons rfl (sub_cons rfl (sub_cons rfl (sub_cons rfl (sub_cons rfl (sub_nil))))))))))))))))) ?_
                  refine r1 T0_ok hP hm hN ?_
                  refine g1 ?_
                  refine g1 ?_
                  refine gc1 ?_ (call1 ok_L_eqInt64SS ([rwG hs bs 0, rwG hs bs 1, rwG hs bs 2, rwG hs bs 3], [rwG hs bs 0, rwG hs bs 1, rwG hs bs 2, rwG hs bs 3]) [] (hargs := (by exact args_cons (arga_slownV (by simp) rfl rfl (rvC (cellV_own (by simp) rfl rfl rfl rfl) (rvC (cellV_own (by simp) rfl rfl rfl rfl) (rvC (cellV_own (by simp) rfl rfl rfl rfl) (rvC (cellV_own (by simp) rfl rfl rfl rfl) (rvN)))))) (args_cons (arga_slown (by simp) rfl rfl rfl rfl) args_nil))) (hpre := by (try dsimp only); exact ⟨by simp, by simp, hqL⟩))
                  refine g1 ?_
                  refine g1 ?_
                  refine gg1 ?_
                  refine gg1 ?_
                  refine gg1 ?_
                  refine g1 ?_
                  refine awp_cond rfl (fun hc8 => ?_) (fun hc8 => ?_)
                  · skip
                    exfalso; first | (simp [ask] at hc8; done) | (simp [ask] at hc8; omega)
                  · skip
                    refine awp_skip ?_
                    refine awp_seq ?_
                    refine r1 T0_ok hP hm hN ?_
                    refine g1 ?_
                    refine awp_seq ?_
                    refine r1 T0_ok hP hm hN ?_
                    refine g1 ?_
                    refine g1 ?_
                    refine gc1 ?_ (call1 ok_L_heldInt64SS ([mkR (rwG hs bs) 1 0, mkR (rwG hs bs) 1 1, mkR (rwG hs bs) 1 2, mkR (rwG hs bs) 1 3], 1) [] (hargs := (by exact args_cons (arga_slownV (by simp) rfl rfl (rvC (cellV_own (by simp) rfl rfl rfl rfl) (rvC (cellV_own (by simp) rfl rfl rfl rfl) (rvC (cellV_own (by simp) rfl rfl rfl rfl) (rvC (cellV_own (by simp) rfl rfl rfl rfl) (rvN)))))) (args_cons arga_val args_nil))) (hpre := by (try dsimp only); exact ⟨by simp, hqM, by omega, by omega⟩)) (hst := by simp +decide (disch := omega) only [nrm, lk_nrm, dc_nrm, mk_nrm, mf_nrm, ti_nrm, ls_nrm, mp_nrm, nb_nrm, hset, pick_and, pick_or, ↓reduceIte, Nat.reduceAdd, wI64, wI32, wI16, wI8, wU8, List.length_map, Int.toNat_natCast, hhv]; rfl)
                    refine g1 ?_
                    refine awp_seq ?_
                    refine awp_seq ?_
                    refine r1 T0_ok hP hm hN ?_
                    refine g1 ?_
                    refine g1 ?_
                    refine awp_cond rfl (fun hc9 => ?_) (fun hc9 => ?_)
                    · skip
                      exfalso; first | (simp [ask] at hc9; done) | (simp [ask] at hc9; omega)
                    · skip
                      refine awp_skip ?_
                      refine awp_seq ?_
                      refine awp_seq ?_
                      refine r1 T0_ok hP hm hN ?_
                      refine g1 ?_
                      refine g1 ?_
                      refine g1 ?_
                      refine awp_cond rfl (fun hc10 => ?_) (fun hc10 => ?_)
                      · skip
                        exfalso; first | (simp [ask] at hc10; done) | (simp [ask] at hc10; omega)
                      · skip
                        refine awp_skip ?_
                        refine awp_seq ?_
                        refine r1 T0_ok hP hm hN ?_
                        refine g1 ?_
                        refine awp_ret ?_
                        refine fin_mk [] rfl rfl ?_ trivial (by decide)
                        rfl

noncomputable abbrev s_L_FnExactGroupBooksN5 : Spec ((Int × Int × Int) × List Int × List Bk) where
  args := fun x => [pegs x.1, .sl 1 (i64s x.2.1), .sl 8 (bks x.2.2)]
  pre := fun x => isPegs x.1 ∧ (I64s x.2.1 ∧ x.2.1.length ≤ 9223372036854775807) ∧ ((∀ b ∈ x.2.2, isBk b) ∧ x.2.2.length ≤ 9223372036854775807) ∧ nG x.1.1 x.1.2.1 x.1.2.2 x.2.1 x.2.2 = 5
  res := fun x => .val (.bool true)

set_option maxRecDepth 20000 in
set_option maxHeartbeats 16000000 in
theorem ok_L_FnExactGroupBooksN5 : FnOk Pr 3 s_L_FnExactGroupBooksN5 := by
  refine fn_ok0 3 T0_ok Go.Proofs.Try.func3 rfl (enters_of Go.Proofs.Try.func3 rfl rfl) (fun _ => rfl) (fun _ => rfl) (fun _ => rfl) ?_
  rintro ⟨⟨a, b, c⟩, hs, bs⟩ ⟨hp, ⟨_, hhl0⟩, ⟨hv, hl0⟩, hn⟩ C hP hN hm hG hS0
  change awp C _ _ ⟨[(0, .val (.agg #[.int .i16 a, .int .i16 b, .int .i16 c])), (1, .sl 1 (i64s hs)), (2, .sl 8 (bks bs))], [], 0⟩
  simp only at hhl0 hv hl0 hn
  have hnG : nG a b c hs bs = 5 := hn
  have hgb : gbL a b c hs bs = [rwG hs bs 0, rwG hs bs 1, rwG hs bs 2, rwG hs bs 3, rwG hs bs 4] := by rw [gbL_eq, hnG]; rfl
  have hfl : ∀ j, (rwG hs bs j).length ≤ bs.length := fun j => selK_len _ _ _
  refine awp_seq ?_
  refine r1 T0_ok hP hm hN ?_
  refine g1 ?_
  refine g1 ?_
  refine awp_seq ?_
  refine awp_seq ?_
  refine r1 T0_ok hP hm hN ?_
  refine g1 ?_
  refine g1 ?_
  refine g1 ?_
  refine awp_cond rfl (fun hc0 => ?_) (fun hc0 => ?_)
  · skip
    refine awp_seq ?_
    refine r1 T0_ok hP hm hN ?_
    refine g1 ?_
    refine awp_ret ?_
    refine fin_mk [] rfl rfl ?_ trivial (by decide)
    rfl
  · skip
    have hhl : hs.length ≤ 1048576 := by simp only [decide_eq_false_iff_not] at hc0; omega
    refine awp_skip ?_
    refine awp_seq ?_
    refine r1 T0_ok hP hm hN ?_
    refine g1 ?_
    refine awp_seq ?_
    refine r1 T0_ok hP hm hN ?_
    refine g1 ?_
    refine g1 ?_
    refine gc1 ?_ (call1 ok_L_szBookS (_, _) [] (hpre := by (try dsimp only); exact ⟨hl0, by omega, by omega⟩))
    refine g1 ?_
    refine awp_seq ?_
    refine awp_seq ?_
    refine r1 T0_ok hP hm hN ?_
    refine g1 ?_
    refine g1 ?_
    refine awp_cond rfl (fun hc1 => ?_) (fun hc1 => ?_)
    · skip
      refine awp_seq ?_
      refine r1 T0_ok hP hm hN ?_
      refine g1 ?_
      refine awp_ret ?_
      refine fin_mk [] rfl rfl ?_ trivial (by decide)
      rfl
    · skip
      have hl : bs.length ≤ 1048576 := by simp only [decide_eq_false_iff_not] at hc1; split at hc1 <;> omega
      have hf2 : ∀ j, (rwG hs bs j).length ≤ 1048576 := fun j => Nat.le_trans (hfl j) hl
      have hqL : ∀ q ∈ ([rwG hs bs 0, rwG hs bs 1, rwG hs bs 2, rwG hs bs 3, rwG hs bs 4] : List (List Int)), q.length ≤ 1048576 := fun q hq => by
        obtain ⟨j, _, rfl⟩ := List.mem_map.1 (show q ∈ (List.range 5).map (rwG hs bs) from hq)
        exact hf2 j
      have hqM : ∀ q ∈ ([mkR (rwG hs bs) 1 0, mkR (rwG hs bs) 1 1, mkR (rwG hs bs) 1 2, mkR (rwG hs bs) 1 3, mkR (rwG hs bs) 1 4] : List (List Int)), q.length ≤ 1048576 := fun q hq => by
        obtain ⟨j, _, rfl⟩ := List.mem_map.1 (show q ∈ (List.range 5).map (mkR (rwG hs bs) 1) from hq)
        rw [mkR_len]; exact hf2 j
      have hkk := kkF_b (f := rwG hs bs) (k := 1) (n := 5) (fun j _ => hf2 j) 5 (Nat.le_refl _)
      have hhv : heldV [mkR (rwG hs bs) 1 0, mkR (rwG hs bs) 1 1, mkR (rwG hs bs) 1 2, mkR (rwG hs bs) 1 3, mkR (rwG hs bs) 1 4] 1 = kkF (rwG hs bs) 1 5 := heldV_marked (n := 5) (by omega) rfl
      refine awp_skip ?_
      refine awp_seq ?_
      refine awp_sreg rfl ?_
      refine sg1 T0_ok hP hm hN ?_
      refine sgc1 T0_ok hP hm hN ?_ (call1 ok_L_toPegs (_, _, _) [] (hpre := by (try dsimp only); exact hp))
      refine sg1 T0_ok hP hm hN ?_
      refine sgc1 T0_ok hP hm hN ?_ (call1 ok_L_toInt64S _ [] (hpre := by (try dsimp only); omega))
      refine sg1 T0_ok hP hm hN ?_
      refine sgc1 T0_ok hP hm hN ?_ (call1 ok_L_toBookS _ [] (hpre := by (try dsimp only); omega))
      refine sreg_weak (weak_frz 1 hS0 hG rfl (.inl rfl)) ?_
      refine sreg_weak (weak_frz 2 hS0 hG rfl (.inl rfl)) ?_
      refine sreg_callN hP hN hG ok_S_GroupBooks ((a, b, c), hs, bs) (by decide) (show _ ∧ _ from ⟨hp, by omega, hv, by omega⟩) rfl rfl rfl rfl (fm_cons rfl fm_nil) rfl rfl ?_
      refine sreg_weak (show Weak C _ ⟨[(34, .tup [.own 3, .val (.int .i64 (codeG a b c hs bs))]), (3, .ptr 0 0 0), (1, .sl 1 (i64s hs)), (2, .sl 8 (bks bs))], [(3, ⟨25, 1, false, i64ss (gbL a b c hs bs)⟩), (0, ⟨24, 3, true, [[.val (.int .i16 a), .val (.int .i16 b), .val (.int .i16 c)]]⟩)], 4⟩ from weak_sl (sub_cons rfl (sub_cons rfl (sub_cons rfl (sub_cons rfl (sub_nil)))))) ?_
      refine sreg_rest T0_ok hP hm hN ?_
      refine g1 ?_
      refine g1 ?_
      refine g1 ?_
      refine g1 ?_
      refine g1 ?_
      refine awp_seq ?_
      rw [hgb]
      refine r1 T0_ok hP hm hN ?_
      refine g1 ?_
      refine gc1 ?_ (call1 ok_L_toInt64S _ [] (hpre := by (try dsimp only); omega))
      refine g1 ?_
      refine awp_seq ?_
      refine r1 T0_ok hP hm hN ?_
      refine g1 ?_
      refine gc1 ?_ (call1 ok_L_toBookS _ [] (hpre := by (try dsimp only); omega))
      refine g1 ?_
      refine awp_seq ?_
      refine awp_weak (weak_nx (nx' := 29) (by omega) (by rfl)) ?_
      refine r1 T0_ok hP hm hN ?_
      refine g1 ?_
      refine gc1 ?_ (call1 ok_L_toPegs (_, _, _) [] (hpre := by (try dsimp only); exact hp))
      refine g1 ?_
      refine g1 ?_
      refine gc1 ?_ (call_gb a b c hs bs hnG rfl rfl ⟨hp, by omega, hv, by omega⟩ (by exact args_cons (by first | exact arga_val | exact arga_slsl | exact arga_nil | exact arga_slown (by simp) rfl rfl rfl rfl | exact arga_own rfl | exact arga_slnil | exact argc_rptr (by simp) rfl rfl rfl (.inr (by simp [hf])) | exact argA_self rfl) (args_cons (by first | exact arga_val | exact arga_slsl | exact arga_nil | exact arga_slown (by simp) rfl rfl rfl rfl | exact arga_own rfl | exact arga_slnil | exact argc_rptr (by simp) rfl rfl rfl (.inr (by simp [hf])) | exact argA_self rfl) (args_cons (by first | exact arga_val | exact arga_slsl | exact arga_nil | exact arga_slown (by simp) rfl rfl rfl rfl | exact arga_own rfl | exact arga_slnil | exact argc_rptr (by simp) rfl rfl rfl (.inr (by simp [hf])) | exact argA_self rfl) (args_nil)))))
      refine g1 ?_
      refine g1 ?_
      refine g1 ?_
      refine g1 ?_
      refine g1 ?_
      refine awp_seq ?_
      refine awp_seq ?_
      refine awp_weak (show Weak C _ ⟨[(12, .own 10), (13, .val (.int .i64 (codeG a b c hs bs))), (8, .own 3), (9, .val (.int .i64 (codeG a b c hs bs))), (10, .own 4), (11, .own 5), (3, .ptr 0 0 0), (1, .sl 1 (i64s hs)), (2, .sl 8 (bks bs))], [(10, ⟨25, 1, true, [[.own 11], [.own 12], [.own 13], [.own 14], [.own 15]]⟩), (11, ⟨2, 1, false, i64s (rwG hs bs 0)⟩), (12, ⟨2, 1, false, i64s (rwG hs bs 1)⟩), (13, ⟨2, 1, false, i64s (rwG hs bs 2)⟩), (14, ⟨2, 1, false, i64s (rwG hs bs 3)⟩), (15, ⟨2, 1, false, i64s (rwG hs bs 4)⟩), (5, ⟨47, 8, false, bks bs⟩), (4, ⟨2, 1, false, i64s hs⟩), (3, ⟨25, 1, false, i64ss ([rwG hs bs 0, rwG hs bs 1, rwG hs bs 2, rwG hs bs 3, rwG hs bs 4])⟩), (0, ⟨24, 3, true, [[.val (.int .i16 a), .val (.int .i16 b), .val (.int .i16 c)]]⟩)], 16⟩ from Weak.trans (show Weak C _ ⟨[(12, .own 29), (13, .val (.int .i64 (codeG a b c hs bs))), (8, .own 3), (9, .val (.int .i64 (codeG a b c hs bs))), (10, .own 4), (11, .own 5), (3, .ptr 0 0 0), (1, .sl 1 (i64s hs)), (2, .sl 8 (bks bs))], [(29, ⟨25, 1, true, [[.own 30], [.own 31], [.own 32], [.own 33], [.own 34]]⟩), (30, ⟨2, 1, false, i64s (rwG hs bs 0)⟩), (31, ⟨2, 1, false, i64s (rwG hs bs 1)⟩), (32, ⟨2, 1, false, i64s (rwG hs bs 2)⟩), (33, ⟨2, 1, false, i64s (rwG hs bs 3)⟩), (34, ⟨2, 1, false, i64s (rwG hs bs 4)⟩), (5, ⟨47, 8, false, bks bs⟩), (4, ⟨2, 1, false, i64s hs⟩), (3, ⟨25, 1, false, i64ss ([rwG hs bs 0, rwG hs bs 1, rwG hs bs 2, rwG hs bs 3, rwG hs bs 4])⟩), (0, ⟨24, 3, true, [[.val (.int .i16 a), .val (.int .i16 b), .val (.int .i16 c)]]⟩)], 35⟩ from weak_sl (sub_cons rfl (sub_cons rfl (sub_cons rfl (sub_cons rfl (sub_cons rfl (sub_cons rfl (sub_cons rfl (sub_cons rfl (sub_cons rfl (sub_nil))))))))))) (Weak.trans (weak_swap 29 10 (by omega) (by omega) (by omega) (by omega)) (Weak.trans (weak_swap 30 11 (by omega) (by omega) (by omega) (by omega)) (Weak.trans (weak_swap 31 12 (by omega) (by omega) (by omega) (by omega)) (Weak.trans (weak_swap 32 13 (by omega) (by omega) (by omega) (by omega)) (Weak.trans (weak_swap 33 14 (by omega) (by omega) (by omega) (by omega)) (Weak.trans (weak_swap 34 15 (by omega) (by omega) (by omega) (by omega)) (weak_nx (nx' := 16) (by omega) (by rfl))))))))) ?_
      refine r1 T0_ok hP hm hN ?_
      refine g1 ?_
      refine g1 ?_
      refine gc1 ?_ (call1 ok_L_eqInt64SS ([rwG hs bs 0, rwG hs bs 1, rwG hs bs 2, rwG hs bs 3, rwG hs bs 4], [rwG hs bs 0, rwG hs bs 1, rwG hs bs 2, rwG hs bs 3, rwG hs bs 4]) [] (hargs := (by exact args_cons (arga_slownV (by simp) rfl rfl (rvC (cellV_own (by simp) rfl rfl rfl rfl) (rvC (cellV_own (by simp) rfl rfl rfl rfl) (rvC (cellV_own (by simp) rfl rfl rfl rfl) (rvC (cellV_own (by simp) rfl rfl rfl rfl) (rvC (cellV_own (by simp) rfl rfl rfl rfl) (rvN))))))) (args_cons (arga_slown (by simp) rfl rfl rfl rfl) args_nil))) (hpre := by (try dsimp only); exact ⟨by simp, by simp, hqL⟩))
      refine g1 ?_
      refine g1 ?_
      refine gg1 ?_
      refine gg1 ?_
      refine gg1 ?_
      refine g1 ?_
      refine awp_cond rfl (fun hc2 => ?_) (fun hc2 => ?_)
      · skip
        exfalso; first | (simp [ask] at hc2; done) | (simp [ask] at hc2; omega)
      · skip
        refine awp_skip ?_
        refine awp_seq ?_
        refine awp_seq ?_
        refine r1 T0_ok hP hm hN ?_
        refine g1 ?_
        refine g1 ?_
        refine gc1 ?_ (call1 ok_L_toInt64S _ [] (hpre := by (try dsimp only); omega))
        refine gc1 ?_ (call1 ok_L_eqInt64S (_, _) [] (hpre := by (try dsimp only); omega))
        refine g1 ?_
        refine awp_cond rfl (fun hc3 => ?_) (fun hc3 => ?_)
        · skip
          exfalso; first | (simp [ask] at hc3; done) | (simp [ask] at hc3; omega)
        · skip
          refine awp_skip ?_
          refine awp_seq ?_
          refine awp_seq ?_
          refine r1 T0_ok hP hm hN ?_
          refine g1 ?_
          refine g1 ?_
          refine gc1 ?_ (call1 ok_L_toBookS _ [] (hpre := by (try dsimp only); omega))
          refine gc1 ?_ (call1 ok_L_eqBookS (_, _) [] (hpre := by (try dsimp only); exact ⟨by omega, by omega⟩))
          refine g1 ?_
          refine awp_cond rfl (fun hc4 => ?_) (fun hc4 => ?_)
          · skip
            exfalso; first | (simp [ask] at hc4; done) | (simp [ask] at hc4; omega)
          · skip
            refine awp_skip ?_
            refine awp_seq ?_
            refine r1 T0_ok hP hm hN ?_
            refine g1 ?_
            refine awp_seq ?_
            refine r1 T0_ok hP hm hN ?_
            refine g1 ?_
            refine g1 ?_
            refine gc1 ?_ (call1 ok_L_markInt64S (hs, _) [4] (hpre := by (try dsimp only); exact ⟨by omega, by omega, by omega⟩))
            refine g1 ?_
            refine awp_seq ?_
            refine r1 T0_ok hP hm hN ?_
            refine g1 ?_
            refine g1 ?_
            refine gc1 ?_ (call1 ok_L_markBookS (bs, _) [5] (hpre := by (try dsimp only); exact ⟨by omega, by omega, by omega⟩))
            refine g1 ?_
            refine awp_seq ?_
            refine awp_seq ?_
            refine r1 T0_ok hP hm hN ?_
            refine g1 ?_
            refine g1 ?_
            refine g1 ?_
            refine gg1 ?_
            refine gg1 ?_
            refine ggc1 ?_ (hs := by intro hb; simp +decide only [hb, gd_tt, gd_ff, beq_self_eq_true, Bool.true_and, beq_true]; exact ⟨rfl, _, call1 ok_L_eqInt64SS ([rwG hs bs 0, rwG hs bs 1, rwG hs bs 2, rwG hs bs 3, rwG hs bs 4], [rwG hs bs 0, rwG hs bs 1, rwG hs bs 2, rwG hs bs 3, rwG hs bs 4]) [] (hargs := (by exact args_cons (arga_slownV (by simp) rfl rfl (rvC (cellV_own (by simp) rfl rfl rfl rfl) (rvC (cellV_own (by simp) rfl rfl rfl rfl) (rvC (cellV_own (by simp) rfl rfl rfl rfl) (rvC (cellV_own (by simp) rfl rfl rfl rfl) (rvC (cellV_own (by simp) rfl rfl rfl rfl) (rvN))))))) (args_cons (arga_slown (by simp) rfl rfl rfl rfl) args_nil))) (hpre := by (try dsimp only); exact ⟨by simp, by simp, hqL⟩), rfl, rfl, rfl⟩)
            refine gg1 ?_
            refine g1 ?_
            refine g1 ?_
            refine gg1 ?_
            refine gg1 ?_
            refine gg1 ?_
            refine g1 ?_
            refine awp_cond rfl (fun hc5 => ?_) (fun hc5 => ?_)
            · skip
              exfalso; first | (simp [ask] at hc5; done) | (simp [ask] at hc5; omega)
            · skip
              refine awp_skip ?_
              refine awp_seq ?_
              refine r1 T0_ok hP hm hN ?_
              refine g1 ?_
              refine awp_seq ?_
              refine r1 T0_ok hP hm hN ?_
              refine g1 ?_
              refine g1 ?_
              refine gc1 ?_ (call_mark5 (rwG hs bs) 1 rfl rfl ⟨fun j _ => hf2 j, by omega, by omega⟩ rfl rfl rfl rfl rfl rfl rfl)
              refine g1 ?_
              refine awp_seq ?_
              refine r1 T0_ok hP hm hN ?_
              refine g1 ?_
              refine awp_seq ?_
              refine r1 T0_ok hP hm hN ?_
              refine g1 ?_
              refine g1 ?_
              refine gc1 ?_ (call1 ok_L_heldInt64SS ([mkR (rwG hs bs) 1 0, mkR (rwG hs bs) 1 1, mkR (rwG hs bs) 1 2, mkR (rwG hs bs) 1 3, mkR (rwG hs bs) 1 4], 1) [] (hargs := (by exact args_cons (arga_slownV (by simp) rfl rfl (rvC (cellV_own (by simp) rfl rfl rfl rfl) (rvC (cellV_own (by simp) rfl rfl rfl rfl) (rvC (cellV_own (by simp) rfl rfl rfl rfl) (rvC (cellV_own (by simp) rfl rfl rfl rfl) (rvC (cellV_own (by simp) rfl rfl rfl rfl) (rvN))))))) (args_cons arga_val args_nil))) (hpre := by (try dsimp only); exact ⟨by simp, hqM, by omega, by omega⟩)) (hst := by simp +decide (disch := omega) only [nrm, lk_nrm, dc_nrm, mk_nrm, mf_nrm, ti_nrm, ls_nrm, mp_nrm, nb_nrm, hset, pick_and, pick_or, ↓reduceIte, Nat.reduceAdd, wI64, wI32, wI16, wI8, wU8, List.length_map, Int.toNat_natCast, hhv]; rfl)
              refine g1 ?_
              refine awp_seq ?_
              refine awp_seq ?_
              refine r1 T0_ok hP hm hN ?_
              refine g1 ?_
              refine g1 ?_
              refine awp_cond rfl (fun hc6 => ?_) (fun hc6 => ?_)
              · skip
                exfalso; first | (simp [ask] at hc6; done) | (simp [ask] at hc6; omega)
              · skip
                refine awp_skip ?_
                refine awp_seq ?_
                refine awp_seq ?_
                refine r1 T0_ok hP hm hN ?_
                refine g1 ?_
                refine g1 ?_
                refine g1 ?_
                refine awp_cond rfl (fun hc7 => ?_) (fun hc7 => ?_)
                · skip
                  exfalso; first | (simp [ask] at hc7; done) | (simp [ask] at hc7; omega)
                · skip
                  refine awp_skip ?_
                  refine awp_seq ?_
                  refine awp_weak (weak_nx (nx' := 27) (by omega) (by rfl)) ?_
                  refine r1 T0_ok hP hm hN ?_
                  refine g1 ?_
                  refine gc1 ?_ (call1 ok_L_toPegs (_, _, _) [] (hpre := by (try dsimp only); exact hp))
                  refine g1 ?_
                  refine gc1 ?_ (call1 ok_L_toInt64S _ [] (hpre := by (try dsimp only); omega))
                  refine g1 ?_
                  refine gc1 ?_ (call1 ok_L_toBookS _ [] (hpre := by (try dsimp only); omega))
                  refine gc1 ?_ (call_gb a b c hs bs hnG rfl rfl ⟨hp, by omega, hv, by omega⟩ (by exact args_cons (by first | exact arga_val | exact arga_slsl | exact arga_nil | exact arga_slown (by simp) rfl rfl rfl rfl | exact arga_own rfl | exact arga_slnil | exact argc_rptr (by simp) rfl rfl rfl (.inr (by simp [hf])) | exact argA_self rfl) (args_cons (by first | exact arga_val | exact arga_slsl | exact arga_nil | exact arga_slown (by simp) rfl rfl rfl rfl | exact arga_own rfl | exact arga_slnil | exact argc_rptr (by simp) rfl rfl rfl (.inr (by simp [hf])) | exact argA_self rfl) (args_cons (by first | exact arga_val | exact arga_slsl | exact arga_nil | exact arga_slown (by simp) rfl rfl rfl rfl | exact arga_own rfl | exact arga_slnil | exact argc_rptr (by simp) rfl rfl rfl (.inr (by simp [hf])) | exact argA_self rfl) (args_nil)))))
                  refine g1 ?_
                  refine g1 ?_
                  refine g1 ?_
                  refine g1 ?_
                  refine g1 ?_
                  refine awp_seq ?_
                  refine awp_seq ?_
                  refine awp_weak (show Weak C _ ⟨[(17, .own 29), (18, .val (.int .i64 (codeG a b c hs bs))), (16, .val (.int .i64 (kkF (rwG hs bs) 1 5))), (15, .val (.int .i64 (kkF (rwG hs bs) 1 5))), (12, .own 10), (13, .val (.int .i64 (codeG a b c hs bs))), (8, .own 3), (9, .val (.int .i64 (codeG a b c hs bs)))], [(29, ⟨25, 1, true, [[.own 30], [.own 31], [.own 32], [.own 33], [.own 34]]⟩), (30, ⟨2, 1, false, i64s (rwG hs bs 0)⟩), (31, ⟨2, 1, false, i64s (rwG hs bs 1)⟩), (32, ⟨2, 1, false, i64s (rwG hs bs 2)⟩), (33, ⟨2, 1, false, i64s (rwG hs bs 3)⟩), (34, ⟨2, 1, false, i64s (rwG hs bs 4)⟩), (10, ⟨25, 1, true, [[.own 11], [.own 12], [.own 13], [.own 14], [.own 15]]⟩), (11, ⟨2, 1, false, i64s (mkR (rwG hs bs) 1 0)⟩), (12, ⟨2, 1, false, i64s (mkR (rwG hs bs) 1 1)⟩), (13, ⟨2, 1, false, i64s (mkR (rwG hs bs) 1 2)⟩), (14, ⟨2, 1, false, i64s (mkR (rwG hs bs) 1 3)⟩), (15, ⟨2, 1, false, i64s (mkR (rwG hs bs) 1 4)⟩), (3, ⟨25, 1, false, i64ss ([rwG hs bs 0, rwG hs bs 1, rwG hs bs 2, rwG hs bs 3, rwG hs bs 4])⟩)], 35⟩ from Weak.trans (weak_drop 28) (Weak.trans (weak_drop 27) (Weak.trans (weak_drop 17) (Weak.trans (weak_drop 16) (Weak.trans (weak_drop 5) (Weak.trans (weak_drop 4) (Weak.trans (weak_drop 0) (weak_sl (sub_cons rfl (sub_cons rfl (sub_cons rfl (sub_cons rfl (sub_cons rfl (sub_cons rfl (sub_cons rfl (sub_cons rfl (sub_nil))))))))))))))))) ?_
                  refine r1 T0_ok hP hm hN ?_
                  refine g1 ?_
                  refine g1 ?_
                  refine gc1 ?_ (call1 ok_L_eqInt64SS ([rwG hs bs 0, rwG hs bs 1, rwG hs bs 2, rwG hs bs 3, rwG hs bs 4], [rwG hs bs 0, rwG hs bs 1, rwG hs bs 2, rwG hs bs 3, rwG hs bs 4]) [] (hargs := (by exact args_cons (arga_slownV (by simp) rfl rfl (rvC (cellV_own (by simp) rfl rfl rfl rfl) (rvC (cellV_own (by simp) rfl rfl rfl rfl) (rvC (cellV_own (by simp) rfl rfl rfl rfl) (rvC (cellV_own (by simp) rfl rfl rfl rfl) (rvC (cellV_own (by simp) rfl rfl rfl rfl) (rvN))))))) (args_cons (arga_slown (by simp) rfl rfl rfl rfl) args_nil))) (hpre := by (try dsimp only); exact ⟨by simp, by simp, hqL⟩))
                  refine g1 ?_
                  refine g1 ?_
                  refine gg1 ?_
                  refine gg1 ?_
                  refine gg1 ?_
                  refine g1 ?_
                  refine awp_cond rfl (fun hc8 => ?_) (fun hc8 => ?_)
                  · skip
                    exfalso; first | (simp [ask] at hc8; done) | (simp [ask] at hc8; omega)
                  · skip
                    refine awp_skip ?_
                    refine awp_seq ?_
                    refine r1 T0_ok hP hm hN ?_
                    refine g1 ?_
                    refine awp_seq ?_
                    refine r1 T0_ok hP hm hN ?_
                    refine g1 ?_
                    refine g1 ?_
                    refine gc1 ?_ (call1 ok_L_heldInt64SS ([mkR (rwG hs bs) 1 0, mkR (rwG hs bs) 1 1, mkR (rwG hs bs) 1 2, mkR (rwG hs bs) 1 3, mkR (rwG hs bs) 1 4], 1) [] (hargs := (by exact args_cons (arga_slownV (by simp) rfl rfl (rvC (cellV_own (by simp) rfl rfl rfl rfl) (rvC (cellV_own (by simp) rfl rfl rfl rfl) (rvC (cellV_own (by simp) rfl rfl rfl rfl) (rvC (cellV_own (by simp) rfl rfl rfl rfl) (rvC (cellV_own (by simp) rfl rfl rfl rfl) (rvN))))))) (args_cons arga_val args_nil))) (hpre := by (try dsimp only); exact ⟨by simp, hqM, by omega, by omega⟩)) (hst := by simp +decide (disch := omega) only [nrm, lk_nrm, dc_nrm, mk_nrm, mf_nrm, ti_nrm, ls_nrm, mp_nrm, nb_nrm, hset, pick_and, pick_or, ↓reduceIte, Nat.reduceAdd, wI64, wI32, wI16, wI8, wU8, List.length_map, Int.toNat_natCast, hhv]; rfl)
                    refine g1 ?_
                    refine awp_seq ?_
                    refine awp_seq ?_
                    refine r1 T0_ok hP hm hN ?_
                    refine g1 ?_
                    refine g1 ?_
                    refine awp_cond rfl (fun hc9 => ?_) (fun hc9 => ?_)
                    · skip
                      exfalso; first | (simp [ask] at hc9; done) | (simp [ask] at hc9; omega)
                    · skip
                      refine awp_skip ?_
                      refine awp_seq ?_
                      refine awp_seq ?_
                      refine r1 T0_ok hP hm hN ?_
                      refine g1 ?_
                      refine g1 ?_
                      refine g1 ?_
                      refine awp_cond rfl (fun hc10 => ?_) (fun hc10 => ?_)
                      · skip
                        exfalso; first | (simp [ask] at hc10; done) | (simp [ask] at hc10; omega)
                      · skip
                        refine awp_skip ?_
                        refine awp_seq ?_
                        refine r1 T0_ok hP hm hN ?_
                        refine g1 ?_
                        refine awp_ret ?_
                        refine fin_mk [] rfl rfl ?_ trivial (by decide)
                        rfl
end Go.Proofs.Ytnopmfjamjbphaa.Abs
