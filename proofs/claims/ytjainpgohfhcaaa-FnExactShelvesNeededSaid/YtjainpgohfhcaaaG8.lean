import Derived.Test.YtjainpgohfhcaaaG7
set_option linter.unusedVariables false
set_option linter.unusedSimpArgs false
namespace Go.Proofs.Ytjainpgohfhcaaa.Abs
open Go Go.RowKit
theorem codeS_1 {a b c : Int} {hs : List Int} {bs : List Bk} {wide : Int} (h : (!validH a b c hs || !validBs bs) = true) : codeS a b c hs bs wide = 1 := by rw [codeS, if_pos h]
theorem codeS_2 {a b c : Int} {hs : List Int} {bs : List Bk} {wide : Int} (h : (!validH a b c hs || !validBs bs) = false) (h2 : (!inI wide 1 2000) = true) : codeS a b c hs bs wide = 2 := by rw [codeS, if_neg (by rw [h]; simp), if_pos h2]
theorem codeS_6 {a b c : Int} {hs : List Int} {bs : List Bk} {wide : Int} (h : (!validH a b c hs || !validBs bs) = false) (h2 : (!inI wide 1 2000) = false) (h3 : ask (allG hs bs) = false) : codeS a b c hs bs wide = 6 := by rw [codeS, if_neg (by rw [h]; simp), if_neg (by rw [h2]; simp), if_pos (by rw [h3]; rfl)]
theorem codeS_4 {a b c : Int} {hs : List Int} {bs : List Bk} {wide : Int} (h : (!validH a b c hs || !validBs bs) = false) (h2 : (!inI wide 1 2000) = false) (h3 : ask (allG hs bs) = true) (h4 : bs.any (fun b => decide (b.wide > wide)) = true) : codeS a b c hs bs wide = 4 := by rw [codeS, if_neg (by rw [h]; simp), if_neg (by rw [h2]; simp), if_neg (by rw [h3]; simp), if_pos h4]
theorem codeS_0 {a b c : Int} {hs : List Int} {bs : List Bk} {wide : Int} (h : (!validH a b c hs || !validBs bs) = false) (h2 : (!inI wide 1 2000) = false) (h3 : ask (allG hs bs) = true) (h4 : bs.any (fun b => decide (b.wide > wide)) = false) : codeS a b c hs bs wide = 0 := by rw [codeS, if_neg (by rw [h]; simp), if_neg (by rw [h2]; simp), if_neg (by rw [h3]; simp), if_neg (by rw [h4]; simp)]
theorem grpR_good {hs : List Int} {bs : List Bk} (h : ask (allG hs bs) = true) : grpR hs bs = (grpL hs bs, true) := by rw [grpR, if_pos h]
theorem askR_no {a b c : Int} {hs : List Int} {bs : List Bk} (h : (askR a b c hs bs != 0) = true) : (!validH a b c hs || !validBs bs) = true := by
  unfold askR at h
  split at h
  · assumption
  · simp at h
theorem askR_yes {a b c : Int} {hs : List Int} {bs : List Bk} (h : (askR a b c hs bs != 0) = false) : (!validH a b c hs || !validBs bs) = false := by
  unfold askR at h
  split at h
  · simp at h
  · rename_i h2; simpa using h2

noncomputable abbrev s_I_isShelfWide : Spec Int where
  args := fun n => [.val (.int .i64 n)]
  res := fun n => .val (.bool (inI n 1 2000))

set_option maxRecDepth 20000 in
set_option maxHeartbeats 1000000 in
theorem ok_I_isShelfWide : FnOk Pr 56 s_I_isShelfWide := by
  refine fn_ok 1 0 T0_ok Go.Proofs.Try.func56 rfl (enters_of Go.Proofs.Try.func56 rfl rfl) (fun _ => rfl) (fun _ => rfl) (fun _ => rfl) ?_
  rintro n - C hP hN hm hG
  change awp C _ _ ⟨[(0, .val (.int .i64 n))], [], 0⟩
  refine awp_seq ?_
  refine r1 T0_ok hP hm hN ?_
  refine g1 ?_
  refine awp_seq ?_
  refine r1 T0_ok hP hm hN ?_
  refine g1 ?_
  refine gc1 ?_ (call1 ok_I_within_int64 (_, _, _) [])
  refine g1 ?_
  refine awp_ret ?_
  refine fin_mk [] rfl rfl ?_ trivial (by decide)
  rfl

noncomputable abbrev s_I_shelvesOf (k : FuncId) (g : List Bk → Int → List Int → Int) : Spec ((Int × Int × Int) × List Int × List Bk × Int) where
  args := fun x => [pegs x.1, .sl 1 (i64s x.2.1), .sl 8 (bks x.2.2.1), .val (.int .i64 x.2.2.2), .val (.func (.func k) #[] #[])]
  pre := fun x => isPegs x.1 ∧ x.2.1.length ≤ 1048576 ∧ ((∀ b ∈ x.2.2.1, isBk b) ∧ x.2.2.1.length ≤ 1048576) ∧ -9223372036854775808 ≤ x.2.2.2 ∧ x.2.2.2 ≤ 9223372036854775807
  new := fun x => [⟨2, 1, false, i64s ((shelO g x.1.1 x.1.2.1 x.1.2.2 x.2.1 x.2.2.1 x.2.2.2).1)⟩]
  res := fun x => .tup [.own 0, .val (.int .i64 (shelO g x.1.1 x.1.2.1 x.1.2.2 x.2.1 x.2.2.1 x.2.2.2).2)]

set_option maxRecDepth 20000 in
set_option maxHeartbeats 8000000 in
theorem ok_I_shelvesOf (k : FuncId) (g : List Bk → Int → List Int → Int) (hdoes : ∀ (bs : List Bk) (wide : Int), PreB bs wide → Does Pr (fun q : List Int => [.sl 8 (bks bs), .sl 1 (i64s q), .val (.int .i64 wide)]) (QOk bs) (fun q => .val (.int .i64 (g bs wide q))) (.val (.func (.func k) #[] #[]))) : FnOk Pr 37 (s_I_shelvesOf k g) := by
  refine fn_ok0 5 T0_ok Go.Proofs.Try.func37 rfl (enters_of Go.Proofs.Try.func37 rfl rfl) (fun _ => rfl) (fun _ => rfl) (fun _ => rfl) ?_
  rintro ⟨⟨a, b, c⟩, hs, bs, wide⟩ ⟨hp, hhl, ⟨hv, hl⟩, hw1, hw2⟩ C hP hN hm hG hS0
  change awp C _ _ ⟨[(0, .val (.agg #[.int .i16 a, .int .i16 b, .int .i16 c])), (1, .sl 1 (i64s hs)), (2, .sl 8 (bks bs)), (3, .val (.int .i64 wide)), (4, .val (.func (.func k) #[] #[]))], [], 0⟩
  simp only at hhl hv hl hw1 hw2
  refine awp_seq ?_
  refine r1 T0_ok hP hm hN ?_
  refine g1 ?_
  refine g1 ?_
  refine g1 ?_
  refine g1 ?_
  refine g1 ?_
  refine g1 ?_
  refine awp_seq ?_
  refine awp_seq ?_
  refine r1 T0_ok hP hm hN ?_
  refine g1 ?_
  refine g1 ?_
  refine gc1 ?_ (call1 ok_I_ValidHeights ((_, _, _), _) [] (hpre := by (try dsimp only); exact ⟨hp, by omega⟩))
  refine g1 ?_
  refine g1 ?_
  refine gg1 ?_
  refine ggc1 ?_ (hs := by intro hb; simp +decide only [hb, gd_tt, gd_ff, beq_self_eq_true, Bool.true_and, beq_true]; exact ⟨rfl, _, call1 ok_I_ValidBooks _ [] (hpre := by (try dsimp only); omega), rfl, rfl, rfl⟩)
  refine gg1 ?_
  refine g1 ?_
  refine awp_cond rfl (fun hc0 => ?_) (fun hc0 => ?_)
  · skip
    have hr := shelO_bad (g := g) (codeS_1 (wide := wide) hc0) (by omega)
    refine awp_seq ?_
    refine r1 T0_ok hP hm hN ?_
    refine g1 ?_
    refine g1 ?_
    refine awp_weak (weak_nil 10 2 1 rfl) ?_
    refine awp_ret ?_
    refine fin_mk [4] rfl rfl ?_ (by first | (simp only [hr]; exact objs_cons rfl rfl rfl rfl rfl (.inl rfl) objs_nil) | (simp only [hr, hgr]; exact objs_cons rfl rfl rfl rfl rfl (.inl rfl) objs_nil)) (by decide)
    show D.tup [_, .val (.int .i64 (shelO g a b c hs bs wide).2)] = _
    rw [hr]
    rfl
  · skip
    have hpg := preG_of hv hc0
    refine awp_skip ?_
    refine awp_seq ?_
    refine awp_seq ?_
    refine r1 T0_ok hP hm hN ?_
    refine g1 ?_
    refine gc1 ?_ (call1 ok_I_isShelfWide _ [] (hpre := by (try dsimp only); (try trivial)))
    refine g1 ?_
    refine awp_cond rfl (fun hc1 => ?_) (fun hc1 => ?_)
    · skip
      have hr := shelO_bad (g := g) (codeS_2 hc0 hc1) (by omega)
      refine awp_seq ?_
      refine r1 T0_ok hP hm hN ?_
      refine g1 ?_
      refine g1 ?_
      refine awp_weak (weak_nil 10 2 1 rfl) ?_
      refine awp_ret ?_
      refine fin_mk [4] rfl rfl ?_ (by first | (simp only [hr]; exact objs_cons rfl rfl rfl rfl rfl (.inl rfl) objs_nil) | (simp only [hr, hgr]; exact objs_cons rfl rfl rfl rfl rfl (.inl rfl) objs_nil)) (by decide)
      show D.tup [_, .val (.int .i64 (shelO g a b c hs bs wide).2)] = _
      rw [hr]
      rfl
    · skip
      have hwb := inI_iff.1 (show inI wide 1 2000 = true by simpa using hc1)
      have hpb : PreB bs wide := ⟨hpg.1, hwb⟩
      refine awp_skip ?_
      refine awp_seq ?_
      refine awp_sreg rfl ?_
      refine sg1 T0_ok hP hm hN ?_
      refine sg1 T0_ok hP hm hN ?_
      refine sreg_callN hP hN hG ok_I_groups (hs, bs) (by decide) (show _ ∧ _ from ⟨hpg.1.1, by have := hpg.1.2.2; omega, hpg.2.2.1, hpg.2.2.2⟩) rfl rfl rfl rfl (fm_cons rfl fm_nil) rfl rfl ?_
      refine sreg_weak (show Weak C _ ⟨[(29, .tup [.own 4, .val (.bool (grpR hs bs).2)]), (5, .ptr 0 0 0), (7, .ptr 1 0 0), (8, .ptr 2 0 0), (9, .ptr 3 0 0)], [(4, ⟨25, 1, false, i64ss ((grpR hs bs).1)⟩), (3, ⟨65, 1, true, [[.val (.func (.func k) #[] #[])]]⟩), (2, ⟨2, 1, true, [[.val (.int .i64 wide)]]⟩), (1, ⟨33, 1, true, [[.sl 8 (bks bs)]]⟩), (0, ⟨30, 3, true, [[.val (.int .i16 a), .val (.int .i16 b), .val (.int .i16 c)]]⟩)], 4 + 1⟩ from weak_sl (sub_cons rfl (sub_cons rfl (sub_cons rfl (sub_cons rfl (sub_cons rfl (sub_nil))))))) ?_
      refine sreg_rest T0_ok hP hm hN ?_
      refine g1 ?_
      refine g1 ?_
      refine g1 ?_
      refine g1 ?_
      refine g1 ?_
      
      refine awp_seq ?_
      refine awp_block ?_
      refine awp_seq ?_
      refine r1 T0_ok hP hm hN ?_
      refine g1 ?_
      refine g1 ?_
      refine g1 ?_
      refine awp_cond rfl (fun hc2 => ?_) (fun hc2 => ?_)
      · skip
        rw [show (grpR hs bs).2 = ask (allG hs bs) from grpR_snd hs bs] at hc2
        have hr := shelO_bad (g := g) (codeS_6 hc0 hc1 (by simpa using hc2)) (by omega)
        refine awp_seq ?_
        refine r1 T0_ok hP hm hN ?_
        refine g1 ?_
        refine g1 ?_
        refine awp_weak (weak_nil 10 2 1 rfl) ?_
        refine awp_ret ?_
        refine fin_mk [5] rfl rfl ?_ (by first | (simp only [hr]; exact objs_cons rfl rfl rfl rfl rfl (.inl rfl) objs_nil) | (simp only [hr, hgr]; exact objs_cons rfl rfl rfl rfl rfl (.inl rfl) objs_nil)) (by decide)
        show D.tup [_, .val (.int .i64 (shelO g a b c hs bs wide).2)] = _
        rw [hr]
        rfl
      · skip
        rw [show (grpR hs bs).2 = ask (allG hs bs) from grpR_snd hs bs] at hc2
        have hag : ask (allG hs bs) = true := by simpa using hc2
        have hgr := grpR_good hag
        refine awp_seq ?_
        refine r1 T0_ok hP hm hN ?_
        refine g1 ?_
        refine g1 ?_
        refine gc1 ?_ (call1 ok_I_tooWide (bs, wide) [] (hpre := by (try dsimp only); exact ⟨hv, by omega⟩))
        refine g1 ?_
        refine awp_cond rfl (fun hc3 => ?_) (fun hc3 => ?_)
        · skip
          have hr := shelO_bad (g := g) (codeS_4 hc0 hc1 hag hc3) (by omega)
          refine awp_seq ?_
          refine r1 T0_ok hP hm hN ?_
          refine g1 ?_
          refine g1 ?_
          refine awp_weak (weak_nil 10 2 1 rfl) ?_
          refine awp_ret ?_
          refine fin_mk [5] rfl rfl ?_ (by first | (simp only [hr]; exact objs_cons rfl rfl rfl rfl rfl (.inl rfl) objs_nil) | (simp only [hr, hgr]; exact objs_cons rfl rfl rfl rfl rfl (.inl rfl) objs_nil)) (by decide)
          show D.tup [_, .val (.int .i64 (shelO g a b c hs bs wide).2)] = _
          rw [hr]
          rfl
        · skip
          have hr := shelO_good (g := g) (codeS_0 hc0 hc1 hag hc3)
          refine awp_skip ?_
          refine awp_seq ?_
          refine r1 T0_ok hP hm hN ?_
          refine g1 ?_
          refine g1 ?_
          refine gc1 ?_ (call1 ok_I_each_int64_int64 ((grpR hs bs).1, (59, [.rptr 1 [[.val (.func (.func k) #[] #[])]] 0 0, .rptr 1 [[.sl 8 (bks bs)]] 0 0, .rptr 1 [[.val (.int .i64 wide)]] 0 0]), g bs wide, QOk bs) [] (hpre := by (try dsimp only); exact ⟨by rw [hgr]; show (grpL hs bs).length ≤ _; rw [grpF_len]; omega, by rw [hgr]; exact grpL_ok hpg.1.2.2, does_shel (hdoes bs wide hpb)⟩))
          refine g1 ?_
          refine g1 ?_
          refine awp_ret ?_
          refine fin_mk [5] rfl rfl ?_ (by first | (simp only [hr]; exact objs_cons rfl rfl rfl rfl rfl (.inl rfl) objs_nil) | (simp only [hr, hgr]; exact objs_cons rfl rfl rfl rfl rfl (.inl rfl) objs_nil)) (by decide)
          show D.tup [_, .val (.int .i64 (shelO g a b c hs bs wide).2)] = _
          rw [hr]
          rfl

noncomputable abbrev s_S_l04Shelved : Spec ((Int × Int × Int) × List Int × List Bk × Int) where
  args := fun x => [pegs x.1, .sl 1 (i64s x.2.1), .sl 8 (bks x.2.2.1), .val (.int .i64 x.2.2.2)]
  pre := fun x => isPegs x.1 ∧ x.2.1.length ≤ 1048576 ∧ ((∀ b ∈ x.2.2.1, isBk b) ∧ x.2.2.1.length ≤ 1048576) ∧ -9223372036854775808 ≤ x.2.2.2 ∧ x.2.2.2 ≤ 9223372036854775807
  res := fun x => .val (.int .i64 (codeS x.1.1 x.1.2.1 x.1.2.2 x.2.1 x.2.2.1 x.2.2.2))

set_option maxRecDepth 20000 in
set_option maxHeartbeats 8000000 in
theorem ok_S_l04Shelved : FnOk Pr 36 s_S_l04Shelved := by
  refine fn_ok 4 0 T0_ok Go.Proofs.Try.func36 rfl (enters_of Go.Proofs.Try.func36 rfl rfl) (fun _ => rfl) (fun _ => rfl) (fun _ => rfl) ?_
  rintro ⟨⟨a, b, c⟩, hs, bs, wide⟩ ⟨hp, hhl, ⟨hv, hl⟩, hw1, hw2⟩ C hP hN hm hG
  change awp C _ _ ⟨[(0, .val (.agg #[.int .i16 a, .int .i16 b, .int .i16 c])), (1, .sl 1 (i64s hs)), (2, .sl 8 (bks bs)), (3, .val (.int .i64 wide))], [], 0⟩
  simp only at hhl hv hl hw1 hw2
  refine awp_seq ?_
  refine r1 T0_ok hP hm hN ?_
  refine g1 ?_
  refine g1 ?_
  refine awp_seq ?_
  refine awp_block ?_
  refine awp_seq ?_
  refine r1 T0_ok hP hm hN ?_
  refine g1 ?_
  refine g1 ?_
  refine g1 ?_
  refine gc1 ?_ (call1 ok_S_l04Asked ((_, _, _), _, _) [] (hpre := by (try dsimp only); exact ⟨hp, by omega, hv, by omega⟩))
  refine g1 ?_
  refine g1 ?_
  refine awp_cond rfl (fun hc0 => ?_) (fun hc0 => ?_)
  · skip
    have h0 := askR_no hc0
    refine awp_seq ?_
    refine r1 T0_ok hP hm hN ?_
    refine g1 ?_
    refine awp_ret ?_
    refine fin_mk [] rfl rfl ?_ trivial (by decide)
    show D.val (.int .i64 (codeS a b c hs bs wide)) = _
    rw [codeS_1 h0]
    rfl
  · skip
    have h0 := askR_yes hc0
    refine awp_seq ?_
    refine r1 T0_ok hP hm hN ?_
    refine g1 ?_
    refine gc1 ?_ (call1 ok_S_l00In (_, _, _) [])
    refine g1 ?_
    refine g1 ?_
    refine awp_cond rfl (fun hc1 => ?_) (fun hc1 => ?_)
    · skip
      refine awp_seq ?_
      refine r1 T0_ok hP hm hN ?_
      refine g1 ?_
      refine awp_ret ?_
      refine fin_mk [] rfl rfl ?_ trivial (by decide)
      show D.val (.int .i64 (codeS a b c hs bs wide)) = _
      rw [codeS_2 h0 hc1]
      rfl
    · skip
      refine awp_seq ?_
      refine r1 T0_ok hP hm hN ?_
      refine g1 ?_
      refine g1 ?_
      refine gc1 ?_ (call1 ok_S_l04All (_, _) [] (hpre := by (try dsimp only); exact ⟨hv, by omega, by omega⟩))
      refine g1 ?_
      refine g1 ?_
      refine awp_cond rfl (fun hc2 => ?_) (fun hc2 => ?_)
      · skip
        refine awp_seq ?_
        refine r1 T0_ok hP hm hN ?_
        refine g1 ?_
        refine awp_ret ?_
        refine fin_mk [] rfl rfl ?_ trivial (by decide)
        show D.val (.int .i64 (codeS a b c hs bs wide)) = _
        rw [codeS_6 h0 hc1 (by simpa using hc2)]
        rfl
      · skip
        refine awp_seq ?_
        refine r1 T0_ok hP hm hN ?_
        refine g1 ?_
        refine g1 ?_
        refine gc1 ?_ (call1 ok_S_l04Wide (bs, wide) [] (hpre := by (try dsimp only); exact ⟨hv, by omega⟩))
        refine g1 ?_
        refine g1 ?_
        refine awp_cond rfl (fun hc3 => ?_) (fun hc3 => ?_)
        · skip
          rw [Bool.not_not] at hc3
          refine awp_seq ?_
          refine r1 T0_ok hP hm hN ?_
          refine g1 ?_
          refine awp_ret ?_
          refine fin_mk [] rfl rfl ?_ trivial (by decide)
          show D.val (.int .i64 (codeS a b c hs bs wide)) = _
          rw [codeS_4 h0 hc1 (by simpa using hc2) hc3]
          rfl
        · skip
          rw [Bool.not_not] at hc3
          refine awp_skip ?_
          refine awp_seq ?_
          refine r1 T0_ok hP hm hN ?_
          refine g1 ?_
          refine awp_ret ?_
          refine fin_mk [] rfl rfl ?_ trivial (by decide)
          show D.val (.int .i64 (codeS a b c hs bs wide)) = _
          rw [codeS_0 h0 hc1 (by simpa using hc2) hc3]
          rfl

noncomputable abbrev s_S_ShelvesBound : Spec ((Int × Int × Int) × List Int × List Bk × Int) where
  args := fun x => [pegs x.1, .sl 1 (i64s x.2.1), .sl 8 (bks x.2.2.1), .val (.int .i64 x.2.2.2)]
  pre := fun x => isPegs x.1 ∧ x.2.1.length ≤ 1048576 ∧ ((∀ b ∈ x.2.2.1, isBk b) ∧ x.2.2.1.length ≤ 1048576) ∧ -9223372036854775808 ≤ x.2.2.2 ∧ x.2.2.2 ≤ 9223372036854775807
  new := fun x => [⟨2, 1, false, i64s ((shelO bndI x.1.1 x.1.2.1 x.1.2.2 x.2.1 x.2.2.1 x.2.2.2).1)⟩]
  res := fun x => .tup [.own 0, .val (.int .i64 (shelO bndI x.1.1 x.1.2.1 x.1.2.2 x.2.1 x.2.2.1 x.2.2.2).2)]

set_option maxRecDepth 20000 in
set_option maxHeartbeats 8000000 in
theorem ok_S_ShelvesBound : FnOk Pr 22 s_S_ShelvesBound := by
  refine fn_ok0 4 T0_ok Go.Proofs.Try.func22 rfl (enters_of Go.Proofs.Try.func22 rfl rfl) (fun _ => rfl) (fun _ => rfl) (fun _ => rfl) ?_
  rintro ⟨⟨a, b, c⟩, hs, bs, wide⟩ ⟨hp, hhl, ⟨hv, hl⟩, hw1, hw2⟩ C hP hN hm hG hS0
  change awp C _ _ ⟨[(0, .val (.agg #[.int .i16 a, .int .i16 b, .int .i16 c])), (1, .sl 1 (i64s hs)), (2, .sl 8 (bks bs)), (3, .val (.int .i64 wide))], [], 0⟩
  simp only at hhl hv hl hw1 hw2
  refine awp_seq ?_
  refine r1 T0_ok hP hm hN ?_
  refine g1 ?_
  refine g1 ?_
  refine g1 ?_
  refine awp_seq ?_
  refine awp_seq ?_
  refine r1 T0_ok hP hm hN ?_
  refine g1 ?_
  refine g1 ?_
  refine g1 ?_
  refine g1 ?_
  refine gc1 ?_ (call1 ok_S_l04Shelved ((_, _, _), _, _, _) [] (hpre := by (try dsimp only); exact ⟨hp, by omega, ⟨hv, by omega⟩, by omega, by omega⟩))
  refine g1 ?_
  refine awp_seq ?_
  refine r1 T0_ok hP hm hN ?_
  refine g1 ?_
  refine g1 ?_
  refine awp_cond rfl (fun hc0 => ?_) (fun hc0 => ?_)
  · skip
    have hr := shelO_bad (g := bndI) (rfl : codeS a b c hs bs wide = codeS a b c hs bs wide) (by simpa using hc0)
    refine awp_seq ?_
    refine r1 T0_ok hP hm hN ?_
    refine g1 ?_ (hst := by simp +decide (disch := omega) only [nrm, lk_nrm, dc_nrm, mk_nrm, mf_nrm, ti_nrm, ls_nrm, mp_nrm, nb_nrm, hset, pick_and, pick_or, ↓reduceIte, Nat.reduceAdd, wI64, wI32, wI16, wI8, wU8, List.length_map, Int.toNat_natCast, List.all_nil, Bool.not_true]; rfl)
    refine g1 ?_
    refine g1 ?_
    refine g1 ?_
    refine awp_ret ?_
    refine fin_mk [1] rfl rfl ?_ (by first | (simp only [hr]; exact objs_cons rfl rfl rfl rfl rfl (.inl rfl) objs_nil) | (simp only [hr]; exact objs_cons rfl rfl rfl rfl rfl (.inl rfl) objs_nil)) (by decide)
    show D.tup [_, .val (.int .i64 (shelO bndI a b c hs bs wide).2)] = _
    rw [hr]
    rfl
  · skip
    have hok := codeS_ok hc0
    have hpg := preG_of hv hok.1
    have hpb : PreB bs wide := ⟨hpg.1, hok.2.1⟩
    have hwb := hok.2.1
    have h6 := hpg.2.2.2
    have hr := shelO_good (g := bndI) (show codeS a b c hs bs wide = 0 by simpa using hc0)
    refine awp_skip ?_
    refine awp_seq ?_
    refine awp_sreg rfl ?_
    refine sg1 T0_ok hP hm hN ?_
    refine sg1 T0_ok hP hm hN ?_
    refine sreg_callN hP hN hG ok_S_l04Groups (hs, bs) (by decide) (show _ ∧ _ from ⟨hpg.1.1, (show bs.length ≤ 1048576 by have := hpg.1.2.2; omega), (show hs.length ≤ 1048576 by have := hpg.2.2.2; omega)⟩) rfl rfl rfl rfl (fm_cons rfl fm_nil) rfl rfl ?_
    refine sreg_weak (show Weak C _ ⟨[(27, .own 1), (2, .sl 8 (bks bs)), (3, .val (.int .i64 wide))], [(1, ⟨25, 1, false, i64ss (grpL hs bs)⟩), (0, ⟨30, 3, true, [[.val (.int .i16 a), .val (.int .i16 b), .val (.int .i16 c)]]⟩)], 1 + 1⟩ from weak_sl (sub_cons rfl (sub_cons rfl (sub_cons rfl (sub_nil))))) ?_
    refine sreg_rest T0_ok hP hm hN ?_
    refine g1 ?_
    
    refine awp_seq ?_
    refine r1 T0_ok hP hm hN ?_
    refine g1 ?_ (hst := by simp +decide (disch := omega) only [nrm, lk_nrm, dc_nrm, mk_nrm, mf_nrm, ti_nrm, ls_nrm, mp_nrm, nb_nrm, hset, pick_and, pick_or, ↓reduceIte, Nat.reduceAdd, wI64, wI32, wI16, wI8, wU8, List.length_map, Int.toNat_natCast, List.all_nil, Bool.not_true]; rfl)
    refine g1 ?_
    refine awp_seq ?_
    refine awp_seq ?_
    refine r1 T0_ok hP hm hN ?_
    refine g1 ?_
    refine awp_block ?_
    refine awp_loop (fun n st => ∃ h : Nat, h ≤ (grpL hs bs).length ∧ n = (grpL hs bs).length - h ∧ st = ⟨[(13, .val (.int .i64 ((h : Nat) : Int))), (12, .own 2), (11, .own 1), (2, .sl 8 (bks bs)), (3, .val (.int .i64 wide))], [(2, ⟨2, 1, false, i64s (mapF (bndI bs wide) (grpL hs bs) h)⟩), (1, ⟨25, 1, false, i64ss (grpL hs bs)⟩), (0, ⟨30, 3, true, [[.val (.int .i16 a), .val (.int .i16 b), .val (.int .i16 c)]]⟩)], 3⟩) ((grpL hs bs).length) ⟨_, weak_sl (sub_cons rfl (sub_cons rfl (sub_cons rfl (sub_cons rfl (sub_cons rfl (sub_nil)))))), 0, by omega, rfl, rfl⟩ ?_
    rintro n st ⟨h, hih, hnh, rfl⟩
    have hml := mapF_len (bndI bs wide) (grpL hs bs) hih
    have hgl : (grpL hs bs).length = hs.length := grpF_len _ _ _
    refine awp_seq ?_
    refine awp_seq ?_
    refine r1 T0_ok hP hm hN ?_
    refine g1 ?_
    refine g1 ?_
    refine g1 ?_
    refine g1 ?_
    refine awp_cond rfl (fun hc1 => ?_) (fun hc1 => ?_)
    · skip
      have hlth : h < (grpL hs bs).length := by simpa using hc1
      have hq : QOk bs ((grpL hs bs).getD h []) := grpL_get hpg.1.2.2 hlth
      have hgk := i64ss_get (grpL hs bs) h hlth
      have hq60 := hq.2
      refine awp_skip ?_
      refine awp_seq ?_
      refine awp_block ?_
      refine awp_seq ?_
      refine r1 T0_ok hP hm hN ?_
      refine g1 ?_
      refine awp_seq ?_
      refine awp_seq ?_
      refine r1 T0_ok hP hm hN ?_
      refine g1 ?_
      refine awp_block ?_
      refine awp_loop (fun n st => ∃ i : Nat, i ≤ ((grpL hs bs).getD h []).length ∧ n = ((grpL hs bs).getD h []).length - i ∧ st = ⟨[(15, .val (.int .i64 ((i : Nat) : Int))), (14, .val (.int .i64 (sumF (wdt bs) ((grpL hs bs).getD h []) i))), (13, .val (.int .i64 ((h : Nat) : Int))), (12, .own 2), (11, .own 1), (2, .sl 8 (bks bs)), (3, .val (.int .i64 wide))], [(2, ⟨2, 1, false, i64s (mapF (bndI bs wide) (grpL hs bs) h)⟩), (1, ⟨25, 1, false, i64ss (grpL hs bs)⟩), (0, ⟨30, 3, true, [[.val (.int .i16 a), .val (.int .i16 b), .val (.int .i16 c)]]⟩)], 3⟩) (((grpL hs bs).getD h []).length) ⟨_, weak_sl (sub_cons rfl (sub_cons rfl (sub_cons rfl (sub_cons rfl (sub_cons rfl (sub_cons rfl (sub_cons rfl (sub_nil)))))))), 0, by omega, rfl, rfl⟩ ?_
      rintro n st ⟨i, hii, hni, rfl⟩
      have hsw := sumW_b hpb hq hii
      refine awp_seq ?_
      refine awp_seq ?_
      refine r1 T0_ok hP hm hN ?_
      refine g1 ?_
      refine g1 ?_
      refine g1 ?_
      refine g1 ?_
      refine g1 ?_
      refine g1 ?_
      refine g1 ?_
      refine awp_cond rfl (fun hc2 => ?_) (fun hc2 => ?_)
      · skip
        have hlti : i < ((grpL hs bs).getD h []).length := by simpa using hc2
        have hxm := hq.1 _ (getD_mem' (d := 0) hlti)
        have hwx := wdt_b hpb hxm
        have hgx := bks_get bs (((grpL hs bs).getD h []).getD i 0).toNat (by omega)
        refine awp_skip ?_
        refine awp_seq ?_
        refine awp_block ?_
        refine r1 T0_ok hP hm hN ?_
        refine g1 ?_
        refine g1 ?_
        refine g1 ?_
        refine g1 ?_
        refine g1 ?_
        refine g1 ?_
        refine g1 ?_
        refine g1 ?_
        refine g1 ?_
        refine g1 ?_
        refine g1 ?_
        refine g1 ?_
        refine g1 ?_
        refine g1 ?_
        refine g1 ?_
        refine r1 T0_ok hP hm hN ?_
        refine g1 ?_
        refine g1 ?_
        refine g1 ?_
        refine ⟨((grpL hs bs).getD h []).length - (i + 1), _, by omega, (by rw [sumF]; exact weak_sl (sub_cons rfl (sub_cons rfl (sub_cons rfl (sub_cons rfl (sub_cons rfl (sub_cons rfl (sub_cons rfl (sub_nil))))))))), i + 1, by omega, rfl, rfl⟩
      · skip
        have hgei : ¬ i < ((grpL hs bs).getD h []).length := by simpa using hc2
        have heqi : i = ((grpL hs bs).getD h []).length := by omega
        subst heqi
        refine awp_exit ?_
        repeat refine thenA_exit ?_
        refine blockA_hit ?_
        refine r1 T0_ok hP hm hN ?_
        refine g1 ?_
        refine g1 ?_
        refine g1 ?_
        refine g1 ?_
        refine g1 ?_
        refine g1 ?_
        refine g1 ?_
        refine g1 ?_
        refine ga1 ?_
        refine g1 ?_
        refine r1 T0_ok hP hm hN ?_
        refine g1 ?_
        refine g1 ?_
        refine g1 ?_
        refine ⟨(grpL hs bs).length - (h + 1), _, by omega, (by rw [mapF_succ (d := []) _ hlth, i64s_app]; exact Weak.trans (weak_drop 3) (Weak.trans (weak_nx (nx' := 3) (by omega) (by rfl)) (weak_sl (sub_cons rfl (sub_cons rfl (sub_cons rfl (sub_cons rfl (sub_cons rfl (sub_nil))))))))), h + 1, by omega, rfl, rfl⟩
    · skip
      have hgeh : ¬ h < (grpL hs bs).length := by simpa using hc1
      have heqh : h = (grpL hs bs).length := by omega
      rw [heqh, mapF_all]
      refine awp_exit ?_
      repeat refine thenA_exit ?_
      refine blockA_hit ?_
      refine awp_seq ?_
      refine r1 T0_ok hP hm hN ?_
      refine g1 ?_
      refine g1 ?_
      refine g1 ?_
      refine awp_ret ?_
      refine fin_mk [2] rfl rfl ?_ (by first | (simp only [hr]; exact objs_cons rfl rfl rfl rfl rfl (.inl rfl) objs_nil) | (simp only [hr]; exact objs_cons rfl rfl rfl rfl rfl (.inl rfl) objs_nil)) (by decide)
      show D.tup [_, .val (.int .i64 (shelO bndI a b c hs bs wide).2)] = _
      rw [hr]
      rfl

noncomputable abbrev s_I_ShelvesBound : Spec ((Int × Int × Int) × List Int × List Bk × Int) where
  args := fun x => [pegs x.1, .sl 1 (i64s x.2.1), .sl 8 (bks x.2.2.1), .val (.int .i64 x.2.2.2)]
  pre := fun x => isPegs x.1 ∧ x.2.1.length ≤ 1048576 ∧ ((∀ b ∈ x.2.2.1, isBk b) ∧ x.2.2.1.length ≤ 1048576) ∧ -9223372036854775808 ≤ x.2.2.2 ∧ x.2.2.2 ≤ 9223372036854775807
  new := fun x => [⟨2, 1, false, i64s ((shelO bndI x.1.1 x.1.2.1 x.1.2.2 x.2.1 x.2.2.1 x.2.2.2).1)⟩]
  res := fun x => .tup [.own 0, .val (.int .i64 (shelO bndI x.1.1 x.1.2.1 x.1.2.2 x.2.1 x.2.2.1 x.2.2.2).2)]

set_option maxRecDepth 20000 in
set_option maxHeartbeats 8000000 in
theorem ok_I_ShelvesBound : FnOk Pr 23 s_I_ShelvesBound := by
  refine fn_ok 4 0 T0_ok Go.Proofs.Try.func23 rfl (enters_of Go.Proofs.Try.func23 rfl rfl) (fun _ => rfl) (fun _ => rfl) (fun _ => rfl) ?_
  rintro ⟨⟨a, b, c⟩, hs, bs, wide⟩ ⟨hp, hhl, ⟨hv, hl⟩, hw1, hw2⟩ C hP hN hm hG
  change awp C _ _ ⟨[(0, .val (.agg #[.int .i16 a, .int .i16 b, .int .i16 c])), (1, .sl 1 (i64s hs)), (2, .sl 8 (bks bs)), (3, .val (.int .i64 wide))], [], 0⟩
  simp only at hhl hv hl hw1 hw2
  refine awp_seq ?_
  refine r1 T0_ok hP hm hN ?_
  refine g1 ?_
  refine g1 ?_
  refine g1 ?_
  refine awp_seq ?_
  refine r1 T0_ok hP hm hN ?_
  refine g1 ?_
  refine g1 ?_
  refine g1 ?_
  refine g1 ?_
  refine gc1 ?_ (call1 (ok_I_shelvesOf 38 bndI (fun bs wide h => does_bound h)) ((_, _, _), _, _, _) [] (hpre := by (try dsimp only); exact ⟨hp, by omega, ⟨hv, by omega⟩, by omega, by omega⟩))
  refine g1 ?_
  refine g1 ?_
  refine g1 ?_
  refine g1 ?_
  refine awp_ret ?_
  refine fin_mk [1] rfl rfl ?_ (objs_cons rfl rfl rfl rfl rfl (.inl rfl) objs_nil) (by decide)
  rfl
end Go.Proofs.Ytjainpgohfhcaaa.Abs
