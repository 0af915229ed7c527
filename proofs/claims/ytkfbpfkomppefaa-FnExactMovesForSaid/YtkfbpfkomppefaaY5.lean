import Derived.Test.YtkfbpfkomppefaaY4
set_option linter.unusedVariables false
set_option linter.unusedSimpArgs false
namespace Go.Proofs.Ytkfbpfkomppefaa.Abs
open Go Go.RowKit
def mvL (xs : List Bk) (ms : List Mv) : Nat → List Bk
  | 0 => xs
  | i + 1 => carB (mvL xs ms i) ((ms.getD i mv0).1, 1, (ms.getD i mv0).2)
def goodM (n : Nat) (ms : List Mv) (j : Nat) : Prop := blkBad n ((ms.getD j mv0).1, 1, (ms.getD j mv0).2) = false
theorem mvL_len {xs : List Bk} {ms : List Mv} : ∀ {i : Nat}, (∀ j, j < i → goodM xs.length ms j) → (mvL xs ms i).length = xs.length
  | 0, _ => rfl
  | i + 1, h => by
    have ih := mvL_len (xs := xs) (ms := ms) (i := i) (fun j hj => h j (by omega))
    have hi := h i (by omega)
    unfold goodM at hi
    rw [mvL, carB_len (by rw [ih]; exact hi), ih]
noncomputable def mvAR (xs : List Bk) (ms : List Mv) : List Bk × Int := if !validBs xs then ([], 1) else if decide ((ms.length : Int) > 200) then ([], 3) else if ask (∀ j, j < ms.length → goodM xs.length ms j) then (mvL xs ms ms.length, 0) else ([], 2)
theorem mvAR_len (xs : List Bk) (ms : List Mv) : (mvAR xs ms).1.length ≤ xs.length := by
  unfold mvAR
  split
  · simp
  · split
    · simp
    · split
      · rename_i h; rw [mvL_len (ask_iff.1 h)]; omega
      · simp
theorem mvAR_bad {xs : List Bk} {ms : List Mv} {i : Nat} (h0 : (!validBs xs) = false) (h1 : decide ((ms.length : Int) > 200) = false) (hi : i < ms.length) (h : blkBad xs.length ((ms.getD i mv0).1, 1, (ms.getD i mv0).2) = true) : mvAR xs ms = ([], 2) := by
  rw [mvAR, if_neg (by rw [h0]; simp), if_neg (by rw [h1]; simp), ask_false (fun hh => by have := hh i hi; unfold goodM at this; rw [h] at this; cases this)]
  rfl
theorem mvAR_good {xs : List Bk} {ms : List Mv} (h0 : (!validBs xs) = false) (h1 : decide ((ms.length : Int) > 200) = false) (h : ∀ j, j < ms.length → goodM xs.length ms j) : mvAR xs ms = (mvL xs ms ms.length, 0) := by
  rw [mvAR, if_neg (by rw [h0]; simp), if_neg (by rw [h1]; simp), ask_true h]
  rfl

noncomputable abbrev s_I_MoveAll : Spec (List Bk × List Mv) where
  args := fun x => [.sl 8 (bks x.1), .sl 2 (mvs x.2)]
  pre := fun x => ((∀ b ∈ x.1, isBk b) ∧ x.1.length ≤ 1048576) ∧ (∀ b ∈ x.2, isMv b) ∧ x.2.length ≤ 1048576
  new := fun x => [⟨60, 8, false, bks (mvAR x.1 x.2).1⟩]
  res := fun x => .tup [.own 0, .val (.int .i64 (mvAR x.1 x.2).2)]

set_option maxRecDepth 20000 in
set_option maxHeartbeats 8000000 in
theorem ok_I_MoveAll : FnOk Pr 22 s_I_MoveAll := by
  refine fn_ok 2 0 T0_ok Go.Proofs.Try.func22 rfl (enters_of Go.Proofs.Try.func22 rfl rfl) (fun _ => rfl) (fun _ => rfl) (fun _ => rfl) ?_
  rintro ⟨xs, ms⟩ ⟨⟨hv, hl⟩, hms, hml⟩ C hP hN hm hG
  change awp C _ _ ⟨[(0, .sl 8 (bks xs)), (1, .sl 2 (mvs ms))], [], 0⟩
  simp only at hv hl hms hml
  refine awp_seq ?_
  refine r1 T0_ok hP hm hN ?_
  refine g1 ?_
  refine g1 ?_
  refine awp_seq ?_
  refine awp_block ?_
  refine awp_seq ?_
  refine r1 T0_ok hP hm hN ?_
  refine g1 ?_
  refine gc1 ?_ (call1 ok_I_ValidBooks _ [] (hpre := by (try dsimp only); omega))
  refine g1 ?_
  refine g1 ?_
  refine awp_cond rfl (fun hc0 => ?_) (fun hc0 => ?_)
  · skip
    have hr : mvAR xs ms = ([], 1) := by rw [mvAR, if_pos hc0]
    refine awp_seq ?_
    refine r1 T0_ok hP hm hN ?_
    refine g1 ?_
    refine g1 ?_
    refine awp_weak (weak_nil 4 60 8 rfl) ?_
    refine awp_ret ?_
    refine fin_mk [0] rfl rfl ?_ (by simp only [hr]; exact objs_cons rfl rfl rfl rfl rfl (.inl rfl) objs_nil) (by decide)
    show D.tup [_, .val (.int .i64 (mvAR xs ms).2)] = _
    rw [hr]
    rfl
  · skip
    have h60 := valid60 hc0
    refine awp_seq ?_
    refine r1 T0_ok hP hm hN ?_
    refine g1 ?_
    refine g1 ?_
    refine g1 ?_
    refine g1 ?_
    refine awp_cond rfl (fun hc1 => ?_) (fun hc1 => ?_)
    · skip
      have hr : mvAR xs ms = ([], 3) := by rw [mvAR, if_neg (by rw [hc0]; simp), if_pos hc1]
      refine awp_seq ?_
      refine r1 T0_ok hP hm hN ?_
      refine g1 ?_
      refine g1 ?_
      refine awp_weak (weak_nil 4 60 8 rfl) ?_
      refine awp_ret ?_
      refine fin_mk [0] rfl rfl ?_ (by simp only [hr]; exact objs_cons rfl rfl rfl rfl rfl (.inl rfl) objs_nil) (by decide)
      show D.tup [_, .val (.int .i64 (mvAR xs ms).2)] = _
      rw [hr]
      rfl
    · skip
      refine awp_skip ?_
      refine awp_seq ?_
      refine r1 T0_ok hP hm hN ?_
      refine g1 ?_
      refine gc1 ?_ (call1 ok_slices_Clone_I_Book_I_Book _ [] (hpre := by (try dsimp only); omega))
      refine g1 ?_
      refine awp_seq ?_
      refine awp_seq ?_
      refine r1 T0_ok hP hm hN ?_
      refine g1 ?_
      refine g1 ?_
      refine g1 ?_
      refine awp_block ?_
      refine awp_loop (fun n st => ∃ i : Nat, i ≤ ms.length ∧ (∀ j, j < i → goodM xs.length ms j) ∧ n = ms.length - i ∧ st = ⟨[(23, .val (.int .i64 ((i : Nat) : Int))), (22, .val (.int .i64 ((ms.length : Nat) : Int))), (21, .sl 2 (mvs ms)), (6, .own 0)], [(0, ⟨60, 8, false, bks (mvL xs ms i)⟩)], 1⟩) (ms.length) ⟨_, weak_sl (sub_cons rfl (sub_cons rfl (sub_cons rfl (sub_cons rfl (sub_nil))))), 0, by omega, fun j h => by omega, rfl, rfl⟩ ?_
      rintro n st ⟨i, hii, hall, hni, rfl⟩
      refine awp_seq ?_
      refine r1 T0_ok hP hm hN ?_
      refine g1 ?_
      refine awp_seq ?_
      refine awp_cond rfl (fun hc2 => ?_) (fun hc2 => ?_)
      · skip
        have hlti : i < ms.length := by simpa using hc2
        have hgm := mvs_get ms i hlti
        have hmi := hms _ (getD_mem' (d := mv0) hlti)
        have hln := mvL_len hall
        refine awp_skip ?_
        refine awp_seq ?_
        refine awp_block ?_
        refine awp_seq ?_
        refine r1 T0_ok hP hm hN ?_
        refine g1 ?_
        refine g1 ?_
        refine g1 ?_
        refine g1 ?_
        refine awp_seq ?_
        refine r1 T0_ok hP hm hN ?_
        refine g1 ?_
        refine g1 ?_
        refine gc1 ?_ (call1 ok_I_moved_I_Book (mvL xs ms i, (ms.getD i mv0).1, (ms.getD i mv0).2) [] (hpre := by (try dsimp only); exact ⟨by rw [hln]; omega, hmi.1, hmi.2⟩))
        refine g1 ?_
        refine g1 ?_
        refine g1 ?_
        refine g1 ?_
        refine g1 ?_
        refine awp_seq ?_
        refine awp_seq ?_
        refine r1 T0_ok hP hm hN ?_
        refine g1 ?_
        refine g1 ?_
        refine awp_cond rfl (fun hc3 => ?_) (fun hc3 => ?_)
        · skip
          rw [bmR_snd, Bool.not_not, hln] at hc3
          have hr := mvAR_bad hc0 hc1 hlti hc3
          refine awp_seq ?_
          refine r1 T0_ok hP hm hN ?_
          refine g1 ?_
          refine g1 ?_
          refine awp_weak (weak_nil 4 60 8 rfl) ?_
          refine awp_ret ?_
          refine fin_mk [3] rfl rfl ?_ (by simp only [hr]; exact objs_cons rfl rfl rfl rfl rfl (.inl rfl) objs_nil) (by decide)
          show D.tup [_, .val (.int .i64 (mvAR xs ms).2)] = _
          rw [hr]
          rfl
        · skip
          rw [bmR_snd, Bool.not_not, hln] at hc3
          have hbad : goodM xs.length ms i := hc3
          refine awp_skip ?_
          refine r1 T0_ok hP hm hN ?_
          refine g1 ?_
          refine g1 ?_
          refine r1 T0_ok hP hm hN ?_
          refine g1 ?_
          refine g1 ?_
          refine ⟨ms.length - (i + 1), _, by omega, (by rw [show mvL xs ms (i + 1) = (bmR (mvL xs ms i) ((ms.getD i mv0).1, 1, (ms.getD i mv0).2)).1 by rw [bmR_good (by rw [hln]; exact hbad)]; rfl]; exact Weak.trans (weak_drop 0) (Weak.trans (weak_drop 1) (Weak.trans (weak_swap 0 2 (by omega) (by omega) (by decide) (by decide)) (Weak.trans (weak_nx (nx' := 1) (by omega) (by rfl)) (weak_sl (sub_cons rfl (sub_cons rfl (sub_cons rfl (sub_cons rfl (sub_nil)))))))))), i + 1, by omega, upto_step hall hbad, rfl, rfl⟩
      · skip
        have hgei : ¬ i < ms.length := by simpa using hc2
        have heqi : i = ms.length := by omega
        subst heqi
        have hr := mvAR_good hc0 hc1 hall
        refine awp_exit ?_
        repeat refine thenA_exit ?_
        refine blockA_hit ?_
        refine awp_seq ?_
        refine r1 T0_ok hP hm hN ?_
        refine g1 ?_
        refine g1 ?_
        refine g1 ?_
        refine awp_ret ?_
        refine fin_mk [0] rfl rfl ?_ (by simp only [hr]; exact objs_cons rfl rfl rfl rfl rfl (.inl rfl) objs_nil) (by decide)
        show D.tup [_, .val (.int .i64 (mvAR xs ms).2)] = _
        rw [hr]
        rfl

noncomputable abbrev s_S_l03All : Spec (List Bk × List Mv) where
  args := fun x => [.sl 8 (bks x.1), .sl 2 (mvs x.2)]
  pre := fun x => ((∀ b ∈ x.1, isBk b) ∧ x.1.length ≤ 1048576) ∧ (∀ b ∈ x.2, isMv b) ∧ x.2.length ≤ 1048576
  new := fun x => [⟨60, 8, false, bks (mvAR x.1 x.2).1⟩]
  res := fun x => .tup [.own 0, .val (.int .i64 (mvAR x.1 x.2).2)]

set_option maxRecDepth 20000 in
set_option maxHeartbeats 8000000 in
theorem ok_S_l03All : FnOk Pr 40 s_S_l03All := by
  refine fn_ok 2 0 T0_ok Go.Proofs.Try.func40 rfl (enters_of Go.Proofs.Try.func40 rfl rfl) (fun _ => rfl) (fun _ => rfl) (fun _ => rfl) ?_
  rintro ⟨xs, ms⟩ ⟨⟨hv, hl⟩, hms, hml⟩ C hP hN hm hG
  change awp C _ _ ⟨[(0, .sl 8 (bks xs)), (1, .sl 2 (mvs ms))], [], 0⟩
  simp only at hv hl hms hml
  refine awp_seq ?_
  refine r1 T0_ok hP hm hN ?_
  refine g1 ?_
  refine g1 ?_
  refine awp_seq ?_
  refine awp_seq ?_
  refine r1 T0_ok hP hm hN ?_
  refine g1 ?_
  refine gc1 ?_ (call1 ok_S_l01Ok _ [] (hpre := by (try dsimp only); exact ⟨hv, by omega⟩))
  refine g1 ?_
  refine awp_cond rfl (fun hc0 => ?_) (fun hc0 => ?_)
  · skip
    have hr : mvAR xs ms = ([], 1) := by rw [mvAR, if_pos hc0]
    refine awp_seq ?_
    refine r1 T0_ok hP hm hN ?_
    refine g1 ?_
    refine g1 ?_
    refine g1 ?_
    refine awp_ret ?_
    refine fin_mk [0] rfl rfl ?_ (by simp only [hr]; exact objs_cons rfl rfl rfl rfl rfl (.inl rfl) objs_nil) (by decide)
    show D.tup [_, .val (.int .i64 (mvAR xs ms).2)] = _
    rw [hr]
    rfl
  · skip
    have h60 := valid60 hc0
    refine awp_skip ?_
    refine awp_seq ?_
    refine awp_seq ?_
    refine r1 T0_ok hP hm hN ?_
    refine g1 ?_
    refine g1 ?_
    refine g1 ?_
    refine awp_cond rfl (fun hc1 => ?_) (fun hc1 => ?_)
    · skip
      have hr : mvAR xs ms = ([], 3) := by rw [mvAR, if_neg (by rw [hc0]; simp), if_pos hc1]
      refine awp_seq ?_
      refine r1 T0_ok hP hm hN ?_
      refine g1 ?_
      refine g1 ?_
      refine g1 ?_
      refine awp_ret ?_
      refine fin_mk [0] rfl rfl ?_ (by simp only [hr]; exact objs_cons rfl rfl rfl rfl rfl (.inl rfl) objs_nil) (by decide)
      show D.tup [_, .val (.int .i64 (mvAR xs ms).2)] = _
      rw [hr]
      rfl
    · skip
      refine awp_skip ?_
      refine awp_seq ?_
      refine r1 T0_ok hP hm hN ?_
      refine g1 ?_ (hst := by simp +decide (disch := omega) only [nrm, lk_nrm, dc_nrm, mk_nrm, mf_nrm, ti_nrm, ls_nrm, mp_nrm, nb_nrm, hset, pick_and, pick_or, ↓reduceIte, Nat.reduceAdd, wI64, wI32, wI16, wI8, wU8, List.length_map, Int.toNat_natCast, List.all_nil, Bool.not_true]; rfl)
      refine g1 ?_
      refine ga1 ?_ (hst := by simp +decide (disch := omega) only [nrm, lk_nrm, dc_nrm, mk_nrm, mf_nrm, ti_nrm, ls_nrm, mp_nrm, nb_nrm, hset, pick_and, pick_or, ↓reduceIte, Nat.reduceAdd, wI64, wI32, wI16, wI8, wU8, List.length_map, Int.toNat_natCast, kl_nrm, List.nil_append]; rfl)
      refine g1 ?_
      refine awp_seq ?_
      refine awp_seq ?_
      refine r1 T0_ok hP hm hN ?_
      refine g1 ?_
      refine awp_block ?_
      refine awp_loop (fun n st => ∃ i : Nat, i ≤ ms.length ∧ (∀ j, j < i → goodM xs.length ms j) ∧ n = ms.length - i ∧ st = ⟨[(7, .val (.int .i64 ((i : Nat) : Int))), (6, .own 0), (0, .sl 8 (bks xs)), (1, .sl 2 (mvs ms))], [(0, ⟨60, 8, false, bks (mvL xs ms i)⟩)], 1⟩) (ms.length) ⟨_, weak_sl (sub_cons rfl (sub_cons rfl (sub_cons rfl (sub_cons rfl (sub_nil))))), 0, by omega, fun j h => by omega, rfl, rfl⟩ ?_
      rintro n st ⟨i, hii, hall, hni, rfl⟩
      refine awp_seq ?_
      refine awp_seq ?_
      refine r1 T0_ok hP hm hN ?_
      refine g1 ?_
      refine g1 ?_
      refine g1 ?_
      refine g1 ?_
      refine awp_cond rfl (fun hc2 => ?_) (fun hc2 => ?_)
      · skip
        have hlti : i < ms.length := by simpa using hc2
        have hgm := mvs_get ms i hlti
        have hmi := hms _ (getD_mem' (d := mv0) hlti)
        have hln := mvL_len hall
        refine awp_skip ?_
        refine awp_seq ?_
        refine awp_block ?_
        refine awp_seq ?_
        refine awp_seq ?_
        refine r1 T0_ok hP hm hN ?_
        refine g1 ?_
        refine g1 ?_
        refine g1 ?_
        refine g1 ?_
        refine g1 ?_
        refine g1 ?_
        refine gc1 ?_ (call1 ok_S_l03Can (xs.length, (ms.getD i mv0).1, (ms.getD i mv0).2) [] (hpre := by (try dsimp only); exact ⟨hl, hmi.1, hmi.2⟩))
        refine g1 ?_
        refine awp_cond rfl (fun hc3 => ?_) (fun hc3 => ?_)
        · skip
          rw [Bool.not_not] at hc3
          have hr := mvAR_bad hc0 hc1 hlti hc3
          refine awp_seq ?_
          refine r1 T0_ok hP hm hN ?_
          refine g1 ?_
          refine g1 ?_
          refine g1 ?_
          refine awp_ret ?_
          refine fin_mk [1] rfl rfl ?_ (by simp only [hr]; exact objs_cons rfl rfl rfl rfl rfl (.inl rfl) objs_nil) (by decide)
          show D.tup [_, .val (.int .i64 (mvAR xs ms).2)] = _
          rw [hr]
          rfl
        · skip
          rw [Bool.not_not] at hc3
          have hbad : goodM xs.length ms i := hc3
          refine awp_skip ?_
          refine r1 T0_ok hP hm hN ?_
          refine g1 ?_
          refine g1 ?_
          refine g1 ?_
          refine g1 ?_
          refine g1 ?_
          refine gc1 ?_ (call1 ok_S_l03Moved (mvL xs ms i, (ms.getD i mv0).1, (ms.getD i mv0).2) [] (hpre := by (try dsimp only); exact ⟨by rw [hln]; exact h60, by rw [hln]; exact hbad⟩))
          refine g1 ?_
          refine r1 T0_ok hP hm hN ?_
          refine g1 ?_
          refine g1 ?_
          refine g1 ?_
          refine ⟨ms.length - (i + 1), _, by omega, (by exact Weak.trans (weak_drop 0) (Weak.trans (weak_swap 0 1 (by omega) (by omega) (by decide) (by decide)) (Weak.trans (weak_nx (nx' := 1) (by omega) (by rfl)) (weak_sl (sub_cons rfl (sub_cons rfl (sub_cons rfl (sub_cons rfl (sub_nil))))))))), i + 1, by omega, upto_step hall hbad, rfl, rfl⟩
      · skip
        have hgei : ¬ i < ms.length := by simpa using hc2
        have heqi : i = ms.length := by omega
        subst heqi
        have hr := mvAR_good hc0 hc1 hall
        refine awp_exit ?_
        repeat refine thenA_exit ?_
        refine blockA_hit ?_
        refine awp_seq ?_
        refine r1 T0_ok hP hm hN ?_
        refine g1 ?_
        refine g1 ?_
        refine g1 ?_
        refine awp_ret ?_
        refine fin_mk [0] rfl rfl ?_ (by simp only [hr]; exact objs_cons rfl rfl rfl rfl rfl (.inl rfl) objs_nil) (by decide)
        show D.tup [_, .val (.int .i64 (mvAR xs ms).2)] = _
        rw [hr]
        rfl

noncomputable abbrev s_S_MoveAll : Spec (List Bk × List Mv) where
  args := fun x => [.sl 8 (bks x.1), .sl 2 (mvs x.2)]
  pre := fun x => ((∀ b ∈ x.1, isBk b) ∧ x.1.length ≤ 1048576) ∧ (∀ b ∈ x.2, isMv b) ∧ x.2.length ≤ 1048576
  new := fun x => [⟨60, 8, false, bks (mvAR x.1 x.2).1⟩]
  res := fun x => .tup [.own 0, .val (.int .i64 (mvAR x.1 x.2).2)]

set_option maxRecDepth 20000 in
set_option maxHeartbeats 8000000 in
theorem ok_S_MoveAll : FnOk Pr 20 s_S_MoveAll := by
  refine fn_ok 2 0 T0_ok Go.Proofs.Try.func20 rfl (enters_of Go.Proofs.Try.func20 rfl rfl) (fun _ => rfl) (fun _ => rfl) (fun _ => rfl) ?_
  rintro ⟨xs, ms⟩ ⟨⟨hv, hl⟩, hms, hml⟩ C hP hN hm hG
  change awp C _ _ ⟨[(0, .sl 8 (bks xs)), (1, .sl 2 (mvs ms))], [], 0⟩
  simp only at hv hl hms hml
  refine awp_seq ?_
  refine r1 T0_ok hP hm hN ?_
  refine g1 ?_
  refine g1 ?_
  refine awp_seq ?_
  refine r1 T0_ok hP hm hN ?_
  refine g1 ?_
  refine g1 ?_
  refine gc1 ?_ (call1 ok_S_l03All (_, _) [] (hpre := by (try dsimp only); exact ⟨⟨hv, hl⟩, hms, hml⟩))
  refine g1 ?_
  refine g1 ?_
  refine g1 ?_
  refine g1 ?_
  refine awp_ret ?_
  refine fin_mk [0] rfl rfl ?_ (objs_cons rfl rfl rfl rfl rfl (.inl rfl) objs_nil) (by decide)
  rfl
end Go.Proofs.Ytkfbpfkomppefaa.Abs
