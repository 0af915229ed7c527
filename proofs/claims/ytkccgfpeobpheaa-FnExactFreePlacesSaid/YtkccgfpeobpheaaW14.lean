import Derived.Test.YtkccgfpeobpheaaW13
set_option linter.unusedVariables false
set_option linter.unusedSimpArgs false
namespace Go.Proofs.Ytkccgfpeobpheaa.Abs
open Go Go.RowKit
def booksR (ok : Bool) (xs : List Pl) : List Bk × Int := if !ok then ([], 1) else (xs.map Prod.snd, 0)
theorem booksR_len (ok : Bool) (xs : List Pl) : (booksR ok xs).1.length ≤ xs.length := by cases ok <;> simp [booksR]

noncomputable abbrev s_S_l05Books : Spec (Int × List Pl) where
  args := fun x => [.rptr 2 [[.val (.int .i16 x.1), .sl 9 (pls x.2)]] 0 0]
  pre := fun x => x.2.length ≤ 1048576
  new := fun x => [⟨40, 8, false, bks (x.2.map Prod.snd)⟩]
  res := fun x => .own 0

set_option maxRecDepth 20000 in
set_option maxHeartbeats 1000000 in
theorem ok_S_l05Books : FnOk Pr 63 s_S_l05Books := by
  refine fn_ok 1 0 T0_ok Go.Proofs.Try.func63 rfl (enters_of Go.Proofs.Try.func63 rfl rfl) (fun _ => rfl) (fun _ => rfl) (fun _ => rfl) ?_
  rintro ⟨p, xs⟩ hl C hP hN hm hG
  change awp C _ _ ⟨[(0, .rptr 2 [[.val (.int .i16 p), .sl 9 (pls xs)]] 0 0)], [], 0⟩
  have hl : xs.length ≤ 1048576 := hl
  refine awp_seq ?_
  refine r1 T0_ok hP hm hN ?_
  refine g1 ?_
  refine awp_seq ?_
  refine r1 T0_ok hP hm hN ?_
  refine g1 ?_
  refine g1 ?_
  refine awp_seq ?_
  refine awp_seq ?_
  refine r1 T0_ok hP hm hN ?_
  refine g1 ?_
  refine awp_block ?_
  refine awp_loop (fun n st => ∃ i : Nat, i ≤ xs.length ∧ n = xs.length - i ∧ st = ⟨[(4, .val (.int .i64 (i : Nat))), (3, .own 0), (0, .rptr 2 [[.val (.int .i16 p), .sl 9 (pls xs)]] 0 0)], [(0, ⟨40, 8, false, bks (mapF Prod.snd xs i)⟩)], 1⟩) (xs.length) ⟨_, weak_sl (sub_cons rfl (sub_cons rfl (sub_cons rfl (sub_nil)))), 0, by omega, rfl, rfl⟩ ?_
  rintro n st ⟨i, hii, hni, rfl⟩
  refine awp_seq ?_
  refine awp_seq ?_
  refine r1 T0_ok hP hm hN ?_
  refine g1 ?_
  refine g1 ?_
  refine g1 ?_
  refine g1 ?_
  refine g1 ?_
  refine g1 ?_
  refine g1 ?_
  refine awp_cond rfl (fun hc0 => ?_) (fun hc0 => ?_)
  · skip
    have hlti : i < xs.length := by simpa using hc0
    have hml := mapF_len (Prod.snd : Pl → Bk) xs hii
    refine awp_skip ?_
    refine awp_seq ?_
    refine awp_block ?_
    refine r1 T0_ok hP hm hN ?_
    refine g1 ?_
    refine g1 ?_
    refine g1 ?_
    refine g1 ?_
    refine g1 ?_
    refine g1 ?_
    refine g1 ?_
    refine g1 ?_
    refine g1 ?_
    refine g1 ?_
    refine ga1 ?_
    refine g1 ?_
    refine r1 T0_ok hP hm hN ?_
    refine g1 ?_
    refine g1 ?_
    refine g1 ?_
    refine ⟨xs.length - (i + 1), _, by omega, (by rw [mapF_succ (d := pl0) Prod.snd hlti, bks_app]; exact Weak.trans (weak_drop 1) (Weak.trans (weak_nx (nx' := 1) (by omega) (by rfl)) (weak_sl (sub_cons rfl (sub_cons rfl (sub_cons rfl (sub_nil))))))), i + 1, by omega, rfl, rfl⟩
  · skip
    have hgei : ¬ i < xs.length := by simpa using hc0
    have heqi : i = xs.length := by omega
    rw [heqi, mapF_all]
    refine awp_exit ?_
    repeat refine thenA_exit ?_
    refine blockA_hit ?_
    refine awp_seq ?_
    refine r1 T0_ok hP hm hN ?_
    refine g1 ?_
    refine g1 ?_
    refine awp_ret ?_
    refine fin_mk [0] rfl rfl ?_ (objs_cons rfl rfl rfl rfl rfl (.inl rfl) objs_nil) (by decide)
    rfl

noncomputable abbrev s_S_BooksIn : Spec (Int × List Pl) where
  args := fun x => [rackD x]
  pre := fun x => (isI16 x.1 ∧ ∀ b ∈ x.2, isPl b) ∧ x.2.length ≤ 1048576
  new := fun x => [⟨40, 8, false, bks (booksR (okR x.1 x.2) x.2).1⟩]
  res := fun x => .tup [.own 0, .val (.int .i64 (booksR (okR x.1 x.2) x.2).2)]

set_option maxRecDepth 20000 in
set_option maxHeartbeats 1000000 in
theorem ok_S_BooksIn : FnOk Pr 30 s_S_BooksIn := by
  refine fn_ok 1 0 T0_ok Go.Proofs.Try.func30 rfl (enters_of Go.Proofs.Try.func30 rfl rfl) (fun _ => rfl) (fun _ => rfl) (fun _ => rfl) ?_
  rintro ⟨p, xs⟩ ⟨hv, hl⟩ C hP hN hm hG
  change awp C _ _ ⟨[(0, .agg [.val (.int .i16 p), .sl 9 (pls xs)])], [], 0⟩
  simp only at hv hl
  refine awp_seq ?_
  refine r1 T0_ok hP hm hN ?_
  refine g1 ?_
  refine g1 ?_
  refine g1 ?_
  refine awp_seq ?_
  refine awp_seq ?_
  refine r1 T0_ok hP hm hN ?_
  refine gc1 ?_ (call1 ok_S_l05Ok (_, _) [] (hpre := by (try dsimp only); exact ⟨hv, hl⟩))
  refine g1 ?_
  refine awp_cond rfl (fun hc0 => ?_) (fun hc0 => ?_)
  · skip
    have hr : booksR (okR p xs) xs = ([], 1) := by rw [booksR, if_pos hc0]
    refine awp_seq ?_
    refine r1 T0_ok hP hm hN ?_
    refine g1 ?_
    refine g1 ?_
    refine g1 ?_
    refine awp_ret ?_
    refine fin_mk [1] rfl rfl ?_ (by simp only [hr]; exact objs_cons rfl rfl rfl rfl rfl (.inl rfl) objs_nil) (by decide)
    show D.tup [.own 1, .val (.int .i64 (booksR (okR p xs) xs).2)] = _
    rw [hr]
    rfl
  · skip
    have hr : booksR (okR p xs) xs = (xs.map Prod.snd, 0) := by rw [booksR, if_neg (by rw [hc0]; simp)]
    refine awp_skip ?_
    refine awp_seq ?_
    refine r1 T0_ok hP hm hN ?_
    refine gc1 ?_ (call1 ok_S_l05Books (_, _) [] (hpre := by (try dsimp only); exact hl))
    refine g1 ?_
    refine g1 ?_
    refine awp_ret ?_
    refine fin_mk [1] rfl rfl ?_ (by simp only [hr]; exact objs_cons rfl rfl rfl rfl rfl (.inl rfl) objs_nil) (by decide)
    show D.tup [.own 1, .val (.int .i64 (booksR (okR p xs) xs).2)] = _
    rw [hr]
    rfl

noncomputable abbrev s_I_BooksIn : Spec (Int × List Pl) where
  args := fun x => [rackD x]
  pre := fun x => (∀ b ∈ x.2, isPl b) ∧ x.2.length ≤ 1048576
  new := fun x => [⟨40, 8, false, bks (booksR (validR x.1 x.2) x.2).1⟩]
  res := fun x => .tup [.own 0, .val (.int .i64 (booksR (validR x.1 x.2) x.2).2)]

set_option maxRecDepth 20000 in
set_option maxHeartbeats 1000000 in
theorem ok_I_BooksIn : FnOk Pr 31 s_I_BooksIn := by
  refine fn_ok 1 0 T0_ok Go.Proofs.Try.func31 rfl (enters_of Go.Proofs.Try.func31 rfl rfl) (fun _ => rfl) (fun _ => rfl) (fun _ => rfl) ?_
  rintro ⟨p, xs⟩ ⟨hv, hl⟩ C hP hN hm hG
  change awp C _ _ ⟨[(0, .agg [.val (.int .i16 p), .sl 9 (pls xs)])], [], 0⟩
  simp only at hv hl
  refine awp_seq ?_
  refine r1 T0_ok hP hm hN ?_
  refine g1 ?_
  refine g1 ?_
  refine g1 ?_
  refine awp_seq ?_
  refine awp_seq ?_
  refine r1 T0_ok hP hm hN ?_
  refine g1 ?_
  refine gc1 ?_ (call1 ok_I_ValidRack (_, _) [] (hpre := by (try dsimp only); exact ⟨hv, hl⟩))
  refine g1 ?_
  refine awp_cond rfl (fun hc0 => ?_) (fun hc0 => ?_)
  · skip
    have hr : booksR (validR p xs) xs = ([], 1) := by rw [booksR, if_pos hc0]
    refine awp_seq ?_
    refine r1 T0_ok hP hm hN ?_
    refine g1 ?_
    refine g1 ?_
    refine awp_weak (weak_nil 2 40 8 rfl) ?_
    refine awp_ret ?_
    refine fin_mk [1] rfl rfl ?_ (by simp only [hr]; exact objs_cons rfl rfl rfl rfl rfl (.inl rfl) objs_nil) (by decide)
    show D.tup [.own 1, .val (.int .i64 (booksR (validR p xs) xs).2)] = _
    rw [hr]
    rfl
  · skip
    have hr : booksR (validR p xs) xs = (xs.map Prod.snd, 0) := by rw [booksR, if_neg (by rw [hc0]; simp)]
    refine awp_skip ?_
    refine awp_seq ?_
    refine r1 T0_ok hP hm hN ?_
    refine g1 ?_
    refine gc1 ?_ (call1 ok_I_Rack_books (_, _) [] (hpre := by (try dsimp only); exact hl))
    refine g1 ?_
    refine g1 ?_
    refine awp_ret ?_
    refine fin_mk [1] rfl rfl ?_ (by simp only [hr]; exact objs_cons rfl rfl rfl rfl rfl (.inl rfl) objs_nil) (by decide)
    show D.tup [.own 1, .val (.int .i64 (booksR (validR p xs) xs).2)] = _
    rw [hr]
    rfl

noncomputable abbrev s_L_FnExactBooksIn : Spec ((Int × List Pl)) where
  args := fun x => [.agg [.val (.int .i16 x.1), .sl 9 (pls x.2)]]
  pre := fun x => (isI16 x.1 ∧ (∀ b ∈ x.2, isPl b) ∧ x.2.length ≤ 9223372036854775807)
  res := fun x => .val (.bool true)

set_option maxRecDepth 20000 in
set_option maxHeartbeats 4000000 in
theorem ok_L_FnExactBooksIn : FnOk Pr 9 s_L_FnExactBooksIn := by
  refine fn_ok 1 0 T0_ok Go.Proofs.Try.func9 rfl (enters_of Go.Proofs.Try.func9 rfl rfl) (fun _ => rfl) (fun _ => rfl) (fun _ => rfl) ?_
  rintro ⟨p, xs⟩ ⟨hpp, hv, hl0⟩ C hP hN hm hG
  change awp C _ _ ⟨[(0, .agg [.val (.int .i16 p), .sl 9 (pls xs)])], [], 0⟩
  simp only at hv hl0
  have hs := booksR_len (okR p xs) xs
  have hs2 := booksR_len (validR p xs) xs
  refine awp_seq ?_
  refine r1 T0_ok hP hm hN ?_
  refine g1 ?_
  refine g1 ?_
  refine awp_seq ?_
  refine r1 T0_ok hP hm hN ?_
  refine g1 ?_
  refine awp_seq ?_
  refine r1 T0_ok hP hm hN ?_
  refine g1 ?_
  refine g1 ?_
  refine gc1 ?_ (call1 ok_L_szRack ((_, _), _) [] (hpre := by (try dsimp only); exact ⟨hl0, by omega, by omega⟩))
  refine g1 ?_
  refine awp_seq ?_
  refine awp_seq ?_
  refine r1 T0_ok hP hm hN ?_
  refine g1 ?_
  refine g1 ?_
  refine awp_cond rfl (fun hc0 => ?_) (fun hc0 => ?_)
  · skip
    refine awp_seq ?_
    refine r1 T0_ok hP hm hN ?_
    refine g1 ?_
    refine awp_ret ?_
    refine fin_mk [] rfl rfl ?_ trivial (by decide)
    rfl
  · skip
    have hl : xs.length ≤ 1048576 := by simp only [decide_eq_false_iff_not] at hc0; split at hc0 <;> omega
    refine awp_skip ?_
    refine awp_seq ?_
    refine r1 T0_ok hP hm hN ?_
    refine g1 ?_
    refine gc1 ?_ (call1 ok_L_toRack (_, _) [] (hpre := by (try dsimp only); exact hl))
    refine gc1 ?_ (call1 ok_S_BooksIn (_, _) [] (hpre := by (try dsimp only); exact ⟨⟨hpp, hv⟩, hl⟩))
    refine g1 ?_
    refine g1 ?_
    refine g1 ?_
    refine g1 ?_
    refine g1 ?_
    refine awp_seq ?_
    refine r1 T0_ok hP hm hN ?_
    refine g1 ?_
    refine gc1 ?_ (call1 ok_L_toRack (_, _) [] (hpre := by (try dsimp only); exact hl))
    refine g1 ?_
    refine g1 ?_
    refine awp_seq ?_
    refine r1 T0_ok hP hm hN ?_
    refine g1 ?_
    refine gc1 ?_ (call1 ok_I_BooksIn (_, _) [] (hpre := by (try dsimp only); exact ⟨hv, hl⟩))
    refine g1 ?_
    refine g1 ?_
    refine g1 ?_
    refine g1 ?_
    refine g1 ?_
    refine awp_seq ?_
    refine awp_seq ?_
    refine r1 T0_ok hP hm hN ?_
    refine g1 ?_
    refine g1 ?_
    refine gc1 ?_ (call1 ok_L_eqBookS (_, _) [] (hpre := by (try dsimp only); exact ⟨by omega, by omega⟩))
    refine g1 ?_
    refine g1 ?_
    refine gg1 ?_
    refine gg1 ?_
    refine gg1 ?_
    refine g1 ?_
    refine awp_cond rfl (fun hc1 => ?_) (fun hc1 => ?_)
    · skip
      exfalso; rw [okR_validR] at hc1; simp [ask] at hc1
    · skip
      refine awp_skip ?_
      refine awp_seq ?_
      refine awp_seq ?_
      refine awp_draw T0_ok hP hm hN Pr_mix [0, 1, 2, 3, 4, 5, 6, 7, 8, 9, 10, 11] [2, 3] _ rfl (by rfl) ?_
      refine d1 T0_ok ?_
      refine d1 T0_ok ?_
      refine dp1 ?_ (call1 ok_L_toRack (_, _) [] (hpre := by (try dsimp only); exact hl))
      refine dp1 ?_ (call1 ok_L_eqRack ((_, _), (_, _)) [] (hpre := by (try dsimp only); exact ⟨by omega, by omega⟩))
      refine d1 T0_ok ?_
      refine dreg_nil ?_
      refine awp_cond rfl (fun hc2 => ?_) (fun hc2 => ?_)
      · skip
        exfalso; simp [ask] at hc2
      · skip
        refine awp_skip ?_
        refine awp_seq ?_
        refine r1 T0_ok hP hm hN ?_
        refine g1 ?_
        refine awp_seq ?_
        refine r1 T0_ok hP hm hN ?_
        refine g1 ?_
        refine g1 ?_
        refine gc1 ?_ (call1 ok_L_markRack ((_, xs), _) [3] (hpre := by (try dsimp only); exact ⟨by omega, by omega, by omega⟩))
        refine g1 ?_
        refine awp_seq ?_
        refine awp_seq ?_
        refine r1 T0_ok hP hm hN ?_
        refine g1 ?_
        refine g1 ?_
        refine g1 ?_
        refine gg1 ?_
        refine gg1 ?_
        refine ggc1 ?_ (hs := by intro hb; simp +decide only [hb, gd_tt, gd_ff, beq_self_eq_true, Bool.true_and, beq_true]; exact ⟨rfl, _, call1 ok_L_eqBookS (_, _) [] (hpre := by (try dsimp only); exact ⟨by omega, by omega⟩), rfl, rfl, rfl⟩)
        refine gg1 ?_
        refine g1 ?_
        refine g1 ?_
        refine gg1 ?_
        refine gg1 ?_
        refine gg1 ?_
        refine g1 ?_
        refine awp_cond rfl (fun hc3 => ?_) (fun hc3 => ?_)
        · skip
          exfalso; rw [okR_validR] at hc3; simp [ask] at hc3; omega
        · skip
          refine awp_skip ?_
          refine awp_seq ?_
          refine r1 T0_ok hP hm hN ?_
          refine g1 ?_
          refine awp_seq ?_
          refine r1 T0_ok hP hm hN ?_
          refine g1 ?_
          refine g1 ?_
          refine gc1 ?_ (call1 ok_L_markBookS ((booksR (validR p xs) xs).1, _) [5] (hpre := by (try dsimp only); exact ⟨by omega, by omega, by omega⟩))
          refine g1 ?_
          refine awp_seq ?_
          refine r1 T0_ok hP hm hN ?_
          refine g1 ?_
          refine awp_seq ?_
          refine r1 T0_ok hP hm hN ?_
          refine g1 ?_
          refine g1 ?_
          refine gc1 ?_ (call1 ok_L_heldBookS (_, _) [] (hpre := by (try dsimp only); exact ⟨by rw [mkd_book_len]; omega, by omega, by rw [mkd_book_len]; omega⟩)) (hst := by simp +decide (disch := omega) only [nrm, lk_nrm, dc_nrm, mk_nrm, mf_nrm, ti_nrm, ls_nrm, mp_nrm, nb_nrm, hset, pick_and, pick_or, ↓reduceIte, Nat.reduceAdd, wI64, wI32, wI16, wI8, wU8, List.length_map, Int.toNat_natCast, heldR_book_mkd]; rfl)
          refine g1 ?_
          refine awp_seq ?_
          refine awp_seq ?_
          refine r1 T0_ok hP hm hN ?_
          refine g1 ?_
          refine g1 ?_
          refine awp_cond rfl (fun hc4 => ?_) (fun hc4 => ?_)
          · skip
            exfalso; simp [ask] at hc4; omega
          · skip
            refine awp_skip ?_
            refine awp_seq ?_
            refine awp_seq ?_
            refine r1 T0_ok hP hm hN ?_
            refine g1 ?_
            refine g1 ?_
            refine g1 ?_
            refine awp_cond rfl (fun hc5 => ?_) (fun hc5 => ?_)
            · skip
              exfalso; simp [ask] at hc5
            · skip
              refine awp_skip ?_
              refine awp_seq ?_
              refine r1 T0_ok hP hm hN ?_
              refine g1 ?_
              refine gc1 ?_ (call1 ok_L_toRack (_, _) [] (hpre := by (try dsimp only); exact hl))
              refine gc1 ?_ (call1 ok_I_BooksIn (_, _) [] (hpre := by (try dsimp only); exact ⟨hv, hl⟩))
              refine g1 ?_
              refine g1 ?_
              refine g1 ?_
              refine g1 ?_
              refine g1 ?_
              refine awp_seq ?_
              refine awp_seq ?_
              refine r1 T0_ok hP hm hN ?_
              refine g1 ?_
              refine g1 ?_
              refine gc1 ?_ (call1 ok_L_eqBookS (_, _) [] (hpre := by (try dsimp only); exact ⟨by omega, by omega⟩))
              refine g1 ?_
              refine g1 ?_
              refine gg1 ?_
              refine gg1 ?_
              refine gg1 ?_
              refine g1 ?_
              refine awp_cond rfl (fun hc6 => ?_) (fun hc6 => ?_)
              · skip
                exfalso; rw [okR_validR] at hc6; simp [ask] at hc6
              · skip
                refine awp_skip ?_
                refine awp_seq ?_
                refine r1 T0_ok hP hm hN ?_
                refine g1 ?_
                refine awp_seq ?_
                refine r1 T0_ok hP hm hN ?_
                refine g1 ?_
                refine g1 ?_
                refine gc1 ?_ (call1 ok_L_heldBookS (_, _) [] (hpre := by (try dsimp only); exact ⟨by rw [mkd_book_len]; omega, by omega, by rw [mkd_book_len]; omega⟩)) (hst := by simp +decide (disch := omega) only [nrm, lk_nrm, dc_nrm, mk_nrm, mf_nrm, ti_nrm, ls_nrm, mp_nrm, nb_nrm, hset, pick_and, pick_or, ↓reduceIte, Nat.reduceAdd, wI64, wI32, wI16, wI8, wU8, List.length_map, Int.toNat_natCast, heldR_book_mkd]; rfl)
                refine g1 ?_
                refine awp_seq ?_
                refine awp_seq ?_
                refine r1 T0_ok hP hm hN ?_
                refine g1 ?_
                refine g1 ?_
                refine awp_cond rfl (fun hc7 => ?_) (fun hc7 => ?_)
                · skip
                  exfalso; simp [ask] at hc7; omega
                · skip
                  refine awp_skip ?_
                  refine awp_seq ?_
                  refine awp_seq ?_
                  refine r1 T0_ok hP hm hN ?_
                  refine g1 ?_
                  refine g1 ?_
                  refine g1 ?_
                  refine awp_cond rfl (fun hc8 => ?_) (fun hc8 => ?_)
                  · skip
                    exfalso; simp [ask] at hc8
                  · skip
                    refine awp_skip ?_
                    refine awp_seq ?_
                    refine r1 T0_ok hP hm hN ?_
                    refine g1 ?_
                    refine awp_ret ?_
                    refine fin_mk [] rfl rfl ?_ trivial (by decide)
                    rfl
end Go.Proofs.Ytkccgfpeobpheaa.Abs
