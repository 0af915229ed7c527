import Derived.Test.YtjainpgohfhcaaaG3
set_option linter.unusedVariables false
set_option linter.unusedSimpArgs false
namespace Go.Proofs.Ytjainpgohfhcaaa.Abs
open Go Go.RowKit
theorem preG_of {a b c : Int} {hs : List Int} {bs : List Bk} (hv : ∀ b ∈ bs, isBk b) (h : (!validH a b c hs || !validBs bs) = false) : PreG hs bs := by
  simp only [Bool.or_eq_false_iff, Bool.not_eq_false'] at h
  obtain ⟨h1, h2, h3⟩ := validH_b2 h.1
  obtain ⟨h4, h5⟩ := validBs_b h.2
  exact ⟨⟨hv, h4, h5⟩, h1, h2, h3⟩
noncomputable def askR (a b c : Int) (hs : List Int) (bs : List Bk) : Int := if !validH a b c hs || !validBs bs then 1 else 0
theorem codeG_1 {a b c : Int} {hs : List Int} {bs : List Bk} (h : (!validH a b c hs || !validBs bs) = true) : codeG a b c hs bs = 1 := by rw [codeG, if_pos h]
theorem codeG_6 {a b c : Int} {hs : List Int} {bs : List Bk} (h : (!validH a b c hs || !validBs bs) = false) (h2 : ask (allG hs bs) = false) : codeG a b c hs bs = 6 := by rw [codeG, if_neg (by rw [h]; simp), if_pos (by rw [h2]; rfl)]
theorem codeG_0 {a b c : Int} {hs : List Int} {bs : List Bk} (h : (!validH a b c hs || !validBs bs) = false) (h2 : ask (allG hs bs) = true) : codeG a b c hs bs = 0 := by rw [codeG, if_neg (by rw [h]; simp), if_neg (by rw [h2]; simp)]
theorem codeG_ok {a b c : Int} {hs : List Int} {bs : List Bk} (h : (codeG a b c hs bs != 0) = false) : (!validH a b c hs || !validBs bs) = false ∧ allG hs bs := by
  cases h1 : (!validH a b c hs || !validBs bs) with
  | true => rw [codeG_1 h1] at h; simp at h
  | false =>
    cases h2 : ask (allG hs bs) with
    | false => rw [codeG_6 h1 h2] at h; simp at h
    | true => exact ⟨rfl, ask_iff.1 h2⟩
theorem grpR_snd (hs : List Int) (bs : List Bk) : (grpR hs bs).2 = ask (allG hs bs) := by
  unfold grpR
  cases h : ask (allG hs bs) <;> simp
noncomputable def wasteO (a b c : Int) (hs : List Int) (bs : List Bk) : Int × Int := if codeG a b c hs bs != 0 then (0, codeG a b c hs bs) else (sumA (wG hs bs) (gF hs bs) bs.length, 0)

noncomputable abbrev s_S_l04Asked : Spec ((Int × Int × Int) × List Int × List Bk) where
  args := fun x => [pegs x.1, .sl 1 (i64s x.2.1), .sl 8 (bks x.2.2)]
  pre := fun x => isPegs x.1 ∧ x.2.1.length ≤ 1048576 ∧ (∀ b ∈ x.2.2, isBk b) ∧ x.2.2.length ≤ 1048576
  res := fun x => .val (.int .i64 (askR x.1.1 x.1.2.1 x.1.2.2 x.2.1 x.2.2))

set_option maxRecDepth 20000 in
set_option maxHeartbeats 4000000 in
theorem ok_S_l04Asked : FnOk Pr 41 s_S_l04Asked := by
  refine fn_ok 3 0 T0_ok Go.Proofs.Try.func41 rfl (enters_of Go.Proofs.Try.func41 rfl rfl) (fun _ => rfl) (fun _ => rfl) (fun _ => rfl) ?_
  rintro ⟨⟨a, b, c⟩, hs, bs⟩ ⟨hp, hhl, hv, hl⟩ C hP hN hm hG
  change awp C _ _ ⟨[(0, .val (.agg #[.int .i16 a, .int .i16 b, .int .i16 c])), (1, .sl 1 (i64s hs)), (2, .sl 8 (bks bs))], [], 0⟩
  simp only at hhl hv hl
  refine awp_seq ?_
  refine r1 T0_ok hP hm hN ?_
  refine g1 ?_
  refine g1 ?_
  refine awp_seq ?_
  refine awp_seq ?_
  refine r1 T0_ok hP hm hN ?_
  refine g1 ?_
  refine g1 ?_
  refine gc1 ?_ (call1 ok_S_l04Ok ((_, _, _), _) [] (hargs := (by exact args_cons arga_val (args_cons arga_slsl (args_nil)))) (hpre := by (try dsimp only); exact ⟨hp, by omega⟩))
  refine g1 ?_
  refine g1 ?_
  refine gg1 ?_
  refine ggc1 ?_ (hs := by intro hb; simp +decide only [hb, gd_tt, gd_ff, beq_self_eq_true, Bool.true_and, beq_true]; exact ⟨rfl, _, call1 ok_S_l01Ok _ [] (hpre := by (try dsimp only); exact ⟨hv, by omega⟩), rfl, rfl, rfl⟩)
  refine gg1 ?_
  refine g1 ?_
  refine awp_cond rfl (fun hc0 => ?_) (fun hc0 => ?_)
  · skip
    rw [okH_validH] at hc0
    refine awp_seq ?_
    refine r1 T0_ok hP hm hN ?_
    refine g1 ?_
    refine awp_ret ?_
    refine fin_mk [] rfl rfl ?_ trivial (by decide)
    show D.val (.int .i64 (askR a b c hs bs)) = _
    rw [askR, if_pos hc0]
    rfl
  · skip
    rw [okH_validH] at hc0
    refine awp_skip ?_
    refine awp_seq ?_
    refine r1 T0_ok hP hm hN ?_
    refine g1 ?_
    refine awp_ret ?_
    refine fin_mk [] rfl rfl ?_ trivial (by decide)
    show D.val (.int .i64 (askR a b c hs bs)) = _
    rw [askR, if_neg (by rw [hc0]; simp)]
    rfl

noncomputable abbrev s_S_l04Grouped : Spec ((Int × Int × Int) × List Int × List Bk) where
  args := fun x => [pegs x.1, .sl 1 (i64s x.2.1), .sl 8 (bks x.2.2)]
  pre := fun x => isPegs x.1 ∧ x.2.1.length ≤ 1048576 ∧ (∀ b ∈ x.2.2, isBk b) ∧ x.2.2.length ≤ 1048576
  res := fun x => .val (.int .i64 (codeG x.1.1 x.1.2.1 x.1.2.2 x.2.1 x.2.2))

set_option maxRecDepth 20000 in
set_option maxHeartbeats 4000000 in
theorem ok_S_l04Grouped : FnOk Pr 27 s_S_l04Grouped := by
  refine fn_ok 3 0 T0_ok Go.Proofs.Try.func27 rfl (enters_of Go.Proofs.Try.func27 rfl rfl) (fun _ => rfl) (fun _ => rfl) (fun _ => rfl) ?_
  rintro ⟨⟨a, b, c⟩, hs, bs⟩ ⟨hp, hhl, hv, hl⟩ C hP hN hm hG
  change awp C _ _ ⟨[(0, .val (.agg #[.int .i16 a, .int .i16 b, .int .i16 c])), (1, .sl 1 (i64s hs)), (2, .sl 8 (bks bs))], [], 0⟩
  simp only at hhl hv hl
  refine awp_seq ?_
  refine r1 T0_ok hP hm hN ?_
  refine g1 ?_
  refine g1 ?_
  refine awp_seq ?_
  refine r1 T0_ok hP hm hN ?_
  refine g1 ?_
  refine g1 ?_
  refine g1 ?_
  refine gc1 ?_ (call1 ok_S_l04Asked ((_, _, _), _, _) [] (hpre := by (try dsimp only); exact ⟨hp, by omega, hv, by omega⟩))
  refine g1 ?_
  refine awp_seq ?_
  refine awp_seq ?_
  refine r1 T0_ok hP hm hN ?_
  refine g1 ?_
  refine g1 ?_
  refine g1 ?_
  refine gg1 ?_
  refine gg1 ?_
  refine ggc1 ?_ (hs := by intro hb; simp +decide only [hb, gd_tt, gd_ff, beq_self_eq_true, Bool.true_and, beq_true]; exact ⟨rfl, _, call1 ok_S_l04All (_, _) [] (hpre := by (try dsimp only); exact ⟨hv, by omega, by omega⟩), rfl, rfl, rfl⟩)
  refine gg1 ?_
  refine g1 ?_
  refine awp_cond rfl (fun hc0 => ?_) (fun hc0 => ?_)
  · skip
    refine r1 T0_ok hP hm hN ?_
    refine g1 ?_
    refine awp_seq ?_
    refine r1 T0_ok hP hm hN ?_
    refine g1 ?_
    refine g1 ?_
    refine awp_ret ?_
    refine fin_mk [] rfl rfl ?_ trivial (by decide)
    show D.val (.int .i64 (codeG a b c hs bs)) = D.val (.int .i64 6)
    rw [show codeG a b c hs bs = 6 by revert hc0; unfold codeG askR; cases (!validH a b c hs || !validBs bs) <;> cases ask (allG hs bs) <;> simp]
  · skip
    refine awp_skip ?_
    refine awp_seq ?_
    refine r1 T0_ok hP hm hN ?_
    refine g1 ?_
    refine g1 ?_
    refine awp_ret ?_
    refine fin_mk [] rfl rfl ?_ trivial (by decide)
    show D.val (.int .i64 (codeG a b c hs bs)) = D.val (.int .i64 (askR a b c hs bs))
    rw [show codeG a b c hs bs = askR a b c hs bs by revert hc0; unfold codeG askR; cases (!validH a b c hs || !validBs bs) <;> cases ask (allG hs bs) <;> simp]

noncomputable abbrev s_S_WasteOf : Spec ((Int × Int × Int) × List Int × List Bk) where
  args := fun x => [pegs x.1, .sl 1 (i64s x.2.1), .sl 8 (bks x.2.2)]
  pre := fun x => isPegs x.1 ∧ x.2.1.length ≤ 1048576 ∧ (∀ b ∈ x.2.2, isBk b) ∧ x.2.2.length ≤ 1048576
  res := fun x => .tup [.val (.int .i64 (wasteO x.1.1 x.1.2.1 x.1.2.2 x.2.1 x.2.2).1), .val (.int .i64 (wasteO x.1.1 x.1.2.1 x.1.2.2 x.2.1 x.2.2).2)]

set_option maxRecDepth 20000 in
set_option maxHeartbeats 4000000 in
theorem ok_S_WasteOf : FnOk Pr 8 s_S_WasteOf := by
  refine fn_ok 3 0 T0_ok Go.Proofs.Try.func8 rfl (enters_of Go.Proofs.Try.func8 rfl rfl) (fun _ => rfl) (fun _ => rfl) (fun _ => rfl) ?_
  rintro ⟨⟨a, b, c⟩, hs, bs⟩ ⟨hp, hhl, hv, hl⟩ C hP hN hm hG
  change awp C _ _ ⟨[(0, .val (.agg #[.int .i16 a, .int .i16 b, .int .i16 c])), (1, .sl 1 (i64s hs)), (2, .sl 8 (bks bs))], [], 0⟩
  simp only at hhl hv hl
  refine awp_seq ?_
  refine r1 T0_ok hP hm hN ?_
  refine g1 ?_
  refine g1 ?_
  refine g1 ?_
  refine awp_seq ?_
  refine awp_seq ?_
  refine r1 T0_ok hP hm hN ?_
  refine g1 ?_
  refine g1 ?_
  refine g1 ?_
  refine gc1 ?_ (call1 ok_S_l04Grouped ((_, _, _), _, _) [] (hpre := by (try dsimp only); exact ⟨hp, by omega, hv, by omega⟩))
  refine g1 ?_
  refine awp_seq ?_
  refine r1 T0_ok hP hm hN ?_
  refine g1 ?_
  refine g1 ?_
  refine awp_cond rfl (fun hc0 => ?_) (fun hc0 => ?_)
  · skip
    have hr : wasteO a b c hs bs = (0, codeG a b c hs bs) := by rw [wasteO, if_pos hc0]
    refine awp_seq ?_
    refine r1 T0_ok hP hm hN ?_
    refine g1 ?_
    refine g1 ?_
    refine g1 ?_
    refine awp_ret ?_
    refine fin_mk [] rfl rfl ?_ trivial (by decide)
    show D.tup [.val (.int .i64 (wasteO a b c hs bs).1), .val (.int .i64 (wasteO a b c hs bs).2)] = _
    rw [hr]
    rfl
  · skip
    have hok := codeG_ok hc0
    have hpg := preG_of hv hok.1
    have hr : wasteO a b c hs bs = (sumA (wG hs bs) (gF hs bs) bs.length, 0) := by rw [wasteO, if_neg (by rw [hc0]; simp)]
    refine awp_skip ?_
    refine awp_seq ?_
    refine r1 T0_ok hP hm hN ?_
    refine g1 ?_
    refine g1 ?_
    refine gc1 ?_ (call1 ok_S_l04Waste (_, _) [] (hpre := by (try dsimp only); exact ⟨hpg, hok.2⟩))
    refine g1 ?_
    refine g1 ?_
    refine awp_ret ?_
    refine fin_mk [] rfl rfl ?_ trivial (by decide)
    show D.tup [.val (.int .i64 (wasteO a b c hs bs).1), .val (.int .i64 (wasteO a b c hs bs).2)] = _
    rw [hr]
    rfl

noncomputable abbrev s_I_WasteOf : Spec ((Int × Int × Int) × List Int × List Bk) where
  args := fun x => [pegs x.1, .sl 1 (i64s x.2.1), .sl 8 (bks x.2.2)]
  pre := fun x => isPegs x.1 ∧ x.2.1.length ≤ 1048576 ∧ (∀ b ∈ x.2.2, isBk b) ∧ x.2.2.length ≤ 1048576
  res := fun x => .tup [.val (.int .i64 (wasteO x.1.1 x.1.2.1 x.1.2.2 x.2.1 x.2.2).1), .val (.int .i64 (wasteO x.1.1 x.1.2.1 x.1.2.2 x.2.1 x.2.2).2)]

set_option maxRecDepth 20000 in
set_option maxHeartbeats 4000000 in
theorem ok_I_WasteOf : FnOk Pr 12 s_I_WasteOf := by
  refine fn_ok 3 0 T0_ok Go.Proofs.Try.func12 rfl (enters_of Go.Proofs.Try.func12 rfl rfl) (fun _ => rfl) (fun _ => rfl) (fun _ => rfl) ?_
  rintro ⟨⟨a, b, c⟩, hs, bs⟩ ⟨hp, hhl, hv, hl⟩ C hP hN hm hG
  change awp C _ _ ⟨[(0, .val (.agg #[.int .i16 a, .int .i16 b, .int .i16 c])), (1, .sl 1 (i64s hs)), (2, .sl 8 (bks bs))], [], 0⟩
  simp only at hhl hv hl
  refine awp_seq ?_
  refine r1 T0_ok hP hm hN ?_
  refine g1 ?_
  refine g1 ?_
  refine g1 ?_
  refine awp_seq ?_
  refine awp_seq ?_
  refine r1 T0_ok hP hm hN ?_
  refine g1 ?_
  refine g1 ?_
  refine gc1 ?_ (call1 ok_I_ValidHeights ((_, _, _), _) [] (hpre := by (try dsimp only); exact ⟨hp, by omega⟩))
  refine g1 ?_
  refine g1 ?_
  refine gg1 ?_
  refine ggc1 ?_ (hs := by intro hb; simp +decide only [hb, gd_tt, gd_ff, beq_self_eq_true, Bool.true_and, beq_true]; exact ⟨rfl, _, call1 ok_I_ValidBooks _ [] (hpre := by (try dsimp only); omega), rfl, rfl, rfl⟩)
  refine gg1 ?_
  refine g1 ?_
  refine awp_cond rfl (fun hc0 => ?_) (fun hc0 => ?_)
  · skip
    have hr : wasteO a b c hs bs = (0, 1) := by rw [wasteO, codeG_1 hc0]; rfl
    refine awp_seq ?_
    refine r1 T0_ok hP hm hN ?_
    refine g1 ?_
    refine g1 ?_
    refine awp_ret ?_
    refine fin_mk [] rfl rfl ?_ trivial (by decide)
    show D.tup [.val (.int .i64 (wasteO a b c hs bs).1), .val (.int .i64 (wasteO a b c hs bs).2)] = _
    rw [hr]
    rfl
  · skip
    have hpg := preG_of hv hc0
    refine awp_skip ?_
    refine awp_seq ?_
    refine r1 T0_ok hP hm hN ?_
    refine g1 ?_
    refine g1 ?_
    refine gc1 ?_ (call1 ok_I_waste (_, _) [] (hpre := by (try dsimp only); exact hpg))
    refine g1 ?_
    refine g1 ?_
    refine g1 ?_
    refine g1 ?_
    refine g1 ?_
    refine awp_seq ?_
    refine awp_seq ?_
    refine r1 T0_ok hP hm hN ?_
    refine g1 ?_
    refine g1 ?_
    refine awp_cond rfl (fun hc1 => ?_) (fun hc1 => ?_)
    · skip
      rw [show (wasteI hs bs).2 = ask (allG hs bs) from grpR_snd hs bs] at hc1
      have hr : wasteO a b c hs bs = (0, 6) := by rw [wasteO, codeG_6 hc0 (by simpa using hc1)]; rfl
      refine awp_seq ?_
      refine r1 T0_ok hP hm hN ?_
      refine g1 ?_
      refine g1 ?_
      refine awp_ret ?_
      refine fin_mk [] rfl rfl ?_ trivial (by decide)
      show D.tup [.val (.int .i64 (wasteO a b c hs bs).1), .val (.int .i64 (wasteO a b c hs bs).2)] = _
      rw [hr]
      rfl
    · skip
      rw [show (wasteI hs bs).2 = ask (allG hs bs) from grpR_snd hs bs] at hc1
      have hag : ask (allG hs bs) = true := by simpa using hc1
      have hwi : (wasteI hs bs).1 = sumA (wG hs bs) (gF hs bs) bs.length := by rw [wasteI_eq, if_pos hag]
      have hr : wasteO a b c hs bs = (sumA (wG hs bs) (gF hs bs) bs.length, 0) := by rw [wasteO, codeG_0 hc0 hag]; rfl
      simp only [hwi]
      refine awp_skip ?_
      refine awp_seq ?_
      refine r1 T0_ok hP hm hN ?_
      refine g1 ?_
      refine g1 ?_
      refine g1 ?_
      refine awp_ret ?_
      refine fin_mk [] rfl rfl ?_ trivial (by decide)
      show D.tup [.val (.int .i64 (wasteO a b c hs bs).1), .val (.int .i64 (wasteO a b c hs bs).2)] = _
      rw [hr]
      rfl

noncomputable abbrev s_L_FnExactWasteOf : Spec ((Int × Int × Int) × List Int × List Bk) where
  args := fun x => [pegs x.1, .sl 1 (i64s x.2.1), .sl 8 (bks x.2.2)]
  pre := fun x => isPegs x.1 ∧ (I64s x.2.1 ∧ x.2.1.length ≤ 9223372036854775807) ∧ ((∀ b ∈ x.2.2, isBk b) ∧ x.2.2.length ≤ 9223372036854775807)
  res := fun x => .val (.bool true)

set_option maxRecDepth 20000 in
set_option maxHeartbeats 8000000 in
theorem ok_L_FnExactWasteOf : FnOk Pr 3 s_L_FnExactWasteOf := by
  refine fn_ok 3 0 T0_ok Go.Proofs.Try.func3 rfl (enters_of Go.Proofs.Try.func3 rfl rfl) (fun _ => rfl) (fun _ => rfl) (fun _ => rfl) ?_
  rintro ⟨⟨a, b, c⟩, hs, bs⟩ ⟨hp, ⟨_, hhl0⟩, hv, hl0⟩ C hP hN hm hG
  change awp C _ _ ⟨[(0, .val (.agg #[.int .i16 a, .int .i16 b, .int .i16 c])), (1, .sl 1 (i64s hs)), (2, .sl 8 (bks bs))], [], 0⟩
  simp only at hhl0 hv hl0
  refine awp_seq ?_
  refine r1 T0_ok hP hm hN ?_
  refine g1 ?_
  refine g1 ?_
  refine awp_seq ?_
  refine awp_seq ?_
  refine r1 T0_ok hP hm hN ?_
  refine g1 ?_
  refine g1 ?_
  refine g1 ?_
  refine awp_cond rfl (fun hc0 => ?_) (fun hc0 => ?_)
  · skip
    refine awp_seq ?_
    refine r1 T0_ok hP hm hN ?_
    refine g1 ?_
    refine awp_ret ?_
    refine fin_mk [] rfl rfl ?_ trivial (by decide)
    rfl
  · skip
    have hhl : hs.length ≤ 1048576 := by simp only [decide_eq_false_iff_not] at hc0; omega
    refine awp_skip ?_
    refine awp_seq ?_
    refine r1 T0_ok hP hm hN ?_
    refine g1 ?_
    refine awp_seq ?_
    refine r1 T0_ok hP hm hN ?_
    refine g1 ?_
    refine g1 ?_
    refine gc1 ?_ (call1 ok_L_szBookS (_, _) [] (hpre := by (try dsimp only); exact ⟨hl0, by omega, by omega⟩))
    refine g1 ?_
    refine awp_seq ?_
    refine awp_seq ?_
    refine r1 T0_ok hP hm hN ?_
    refine g1 ?_
    refine g1 ?_
    refine awp_cond rfl (fun hc1 => ?_) (fun hc1 => ?_)
    · skip
      refine awp_seq ?_
      refine r1 T0_ok hP hm hN ?_
      refine g1 ?_
      refine awp_ret ?_
      refine fin_mk [] rfl rfl ?_ trivial (by decide)
      rfl
    · skip
      have hl : bs.length ≤ 1048576 := by simp only [decide_eq_false_iff_not] at hc1; split at hc1 <;> omega
      refine awp_skip ?_
      refine awp_seq ?_
      refine r1 T0_ok hP hm hN ?_
      refine g1 ?_
      refine gc1 ?_ (call1 ok_L_toPegs (_, _, _) [] (hpre := by (try dsimp only); first | trivial | exact ⟨ha, hb, hc⟩ | exact hp | assumption))
      refine g1 ?_
      refine gc1 ?_ (call1 ok_L_toInt64S _ [] (hpre := by (try dsimp only); omega))
      refine g1 ?_
      refine gc1 ?_ (call1 ok_L_toBookS _ [] (hpre := by (try dsimp only); omega))
      refine gc1 ?_ (call1 ok_S_WasteOf ((_, _, _), _, _) [] (hpre := by (try dsimp only); exact ⟨hp, by omega, hv, by omega⟩))
      refine g1 ?_
      refine g1 ?_
      refine g1 ?_
      refine g1 ?_
      refine g1 ?_
      refine awp_seq ?_
      refine r1 T0_ok hP hm hN ?_
      refine g1 ?_
      refine gc1 ?_ (call1 ok_L_toInt64S _ [] (hpre := by (try dsimp only); omega))
      refine g1 ?_
      refine awp_seq ?_
      refine r1 T0_ok hP hm hN ?_
      refine g1 ?_
      refine gc1 ?_ (call1 ok_L_toBookS _ [] (hpre := by (try dsimp only); omega))
      refine g1 ?_
      refine awp_seq ?_
      refine r1 T0_ok hP hm hN ?_
      refine g1 ?_
      refine gc1 ?_ (call1 ok_L_toPegs (_, _, _) [] (hpre := by (try dsimp only); first | trivial | exact ⟨ha, hb, hc⟩ | exact hp | assumption))
      refine g1 ?_
      refine g1 ?_
      refine gc1 ?_ (call1 ok_I_WasteOf ((_, _, _), _, _) [] (hpre := by (try dsimp only); exact ⟨hp, by omega, hv, by omega⟩))
      refine g1 ?_
      refine g1 ?_
      refine g1 ?_
      refine g1 ?_
      refine g1 ?_
      refine awp_seq ?_
      refine awp_seq ?_
      refine r1 T0_ok hP hm hN ?_
      refine g1 ?_
      refine g1 ?_
      refine g1 ?_
      refine g1 ?_
      refine gg1 ?_
      refine gg1 ?_
      refine gg1 ?_
      refine g1 ?_
      refine awp_cond rfl (fun hc2 => ?_) (fun hc2 => ?_)
      · skip
        exfalso; first | (simp [ask] at hc2; done) | (simp [ask] at hc2; omega)
      · skip
        refine awp_skip ?_
        refine awp_seq ?_
        refine awp_seq ?_
        refine r1 T0_ok hP hm hN ?_
        refine g1 ?_
        refine g1 ?_
        refine gc1 ?_ (call1 ok_L_toInt64S _ [] (hpre := by (try dsimp only); omega))
        refine gc1 ?_ (call1 ok_L_eqInt64S (_, _) [] (hpre := by (try dsimp only); omega))
        refine g1 ?_
        refine awp_cond rfl (fun hc3 => ?_) (fun hc3 => ?_)
        · skip
          exfalso; first | (simp [ask] at hc3; done) | (simp [ask] at hc3; omega)
        · skip
          refine awp_skip ?_
          refine awp_seq ?_
          refine awp_seq ?_
          refine r1 T0_ok hP hm hN ?_
          refine g1 ?_
          refine g1 ?_
          refine gc1 ?_ (call1 ok_L_toBookS _ [] (hpre := by (try dsimp only); omega))
          refine gc1 ?_ (call1 ok_L_eqBookS (_, _) [] (hpre := by (try dsimp only); exact ⟨by omega, by omega⟩))
          refine g1 ?_
          refine awp_cond rfl (fun hc4 => ?_) (fun hc4 => ?_)
          · skip
            exfalso; first | (simp [ask] at hc4; done) | (simp [ask] at hc4; omega)
          · skip
            refine awp_skip ?_
            refine awp_seq ?_
            refine r1 T0_ok hP hm hN ?_
            refine g1 ?_
            refine awp_ret ?_
            refine fin_mk [] rfl rfl ?_ trivial (by decide)
            rfl
end Go.Proofs.Ytjainpgohfhcaaa.Abs
