import Derived.Test.YtkfbpfkomppefaaY6
set_option linter.unusedVariables false
set_option linter.unusedSimpArgs false
namespace Go.Proofs.Ytkfbpfkomppefaa.Abs
open Go Go.RowKit
theorem mvs_rep (n : Nat) (v : Mv) : mvs (List.replicate n v) = List.replicate n (mvRow v) := by simp

noncomputable abbrev s_L_toMoveS : Spec (List Mv) where
  args := fun xs => [.sl 2 (mvs xs)]
  pre := fun xs => xs.length ≤ 1048576
  new := fun xs => [⟨39, 2, false, mvs xs⟩]
  res := fun xs => .own 0

set_option maxRecDepth 20000 in
set_option maxHeartbeats 1000000 in
theorem ok_L_toMoveS : FnOk Pr 21 s_L_toMoveS := by
  refine fn_ok 1 0 T0_ok Go.Proofs.Try.func21 rfl (enters_of Go.Proofs.Try.func21 rfl rfl) (fun _ => rfl) (fun _ => rfl) (fun _ => rfl) ?_
  rintro xs hp C hP hN hm hG
  change awp C _ _ ⟨[(0, .sl 2 (mvs xs))], [], 0⟩
  have hp : xs.length ≤ 1048576 := hp
  refine awp_seq ?_
  refine r1 T0_ok hP hm hN ?_
  refine g1 ?_ (hst := by simp +decide (disch := omega) only [nrm, lk_nrm, dc_nrm, mk_nrm, mf_nrm, ti_nrm, ls_nrm, mp_nrm, nb_nrm, hset, pick_and, pick_or, ↓reduceIte, Nat.reduceAdd, wI64, wI32, wI16, wI8, wU8, List.length_map, Int.toNat_natCast, List.length_replicate]; rfl)
  refine awp_seq ?_
  refine r1 T0_ok hP hm hN ?_
  refine g1 ?_ (hst := by simp +decide (disch := omega) only [nrm, lk_nrm, dc_nrm, mk_nrm, mf_nrm, ti_nrm, ls_nrm, mp_nrm, nb_nrm, hset, pick_and, pick_or, ↓reduceIte, Nat.reduceAdd, wI64, wI32, wI16, wI8, wU8, List.length_map, Int.toNat_natCast, List.length_replicate]; rfl)
  refine g1 ?_ (hst := by simp +decide (disch := omega) only [nrm, lk_nrm, dc_nrm, mk_nrm, mf_nrm, ti_nrm, ls_nrm, mp_nrm, nb_nrm, hset, pick_and, pick_or, ↓reduceIte, Nat.reduceAdd, wI64, wI32, wI16, wI8, wU8, List.length_map, Int.toNat_natCast, List.length_replicate]; rfl)
  refine g1 ?_ (hst := by simp +decide (disch := omega) only [nrm, lk_nrm, dc_nrm, mk_nrm, mf_nrm, ti_nrm, ls_nrm, mp_nrm, nb_nrm, hset, pick_and, pick_or, ↓reduceIte, Nat.reduceAdd, wI64, wI32, wI16, wI8, wU8, List.length_map, Int.toNat_natCast, List.length_replicate]; rfl)
  refine g1 ?_ (hst := by simp +decide (disch := omega) only [nrm, lk_nrm, dc_nrm, mk_nrm, mf_nrm, ti_nrm, ls_nrm, mp_nrm, nb_nrm, hset, pick_and, pick_or, ↓reduceIte, Nat.reduceAdd, wI64, wI32, wI16, wI8, wU8, List.length_map, Int.toNat_natCast, List.length_replicate]; rfl)
  refine awp_seq ?_
  refine awp_seq ?_
  refine r1 T0_ok hP hm hN ?_
  refine g1 ?_ (hst := by simp +decide (disch := omega) only [nrm, lk_nrm, dc_nrm, mk_nrm, mf_nrm, ti_nrm, ls_nrm, mp_nrm, nb_nrm, hset, pick_and, pick_or, ↓reduceIte, Nat.reduceAdd, wI64, wI32, wI16, wI8, wU8, List.length_map, Int.toNat_natCast, List.length_replicate]; rfl)
  refine awp_block ?_
  refine awp_loop (fun n st => ∃ i : Nat, i ≤ xs.length ∧ n = xs.length - i ∧ st = ⟨[(4, .val (.int .i64 (i : Nat))), (3, .own 0), (0, .sl 2 (mvs xs))], [(0, ⟨39, 2, false, mvs (cpyD mv0 xs i)⟩)], 1⟩) (xs.length) ⟨_, (by rw [cpyD_zero, mvs_rep]; exact weak_sl (sub_cons rfl (sub_cons rfl (sub_cons rfl (sub_nil))))), 0, by omega, rfl, rfl⟩ ?_
  rintro n st ⟨i, hii, hni, rfl⟩
  refine awp_seq ?_
  refine awp_seq ?_
  refine r1 T0_ok hP hm hN ?_
  refine g1 ?_ (hst := by simp +decide (disch := omega) only [nrm, lk_nrm, dc_nrm, mk_nrm, mf_nrm, ti_nrm, ls_nrm, mp_nrm, nb_nrm, hset, pick_and, pick_or, ↓reduceIte, Nat.reduceAdd, wI64, wI32, wI16, wI8, wU8, List.length_map, Int.toNat_natCast, List.length_replicate]; rfl)
  refine g1 ?_ (hst := by simp +decide (disch := omega) only [nrm, lk_nrm, dc_nrm, mk_nrm, mf_nrm, ti_nrm, ls_nrm, mp_nrm, nb_nrm, hset, pick_and, pick_or, ↓reduceIte, Nat.reduceAdd, wI64, wI32, wI16, wI8, wU8, List.length_map, Int.toNat_natCast, List.length_replicate]; rfl)
  refine g1 ?_ (hst := by simp +decide (disch := omega) only [nrm, lk_nrm, dc_nrm, mk_nrm, mf_nrm, ti_nrm, ls_nrm, mp_nrm, nb_nrm, hset, pick_and, pick_or, ↓reduceIte, Nat.reduceAdd, wI64, wI32, wI16, wI8, wU8, List.length_map, Int.toNat_natCast, List.length_replicate]; rfl)
  refine g1 ?_ (hst := by simp +decide (disch := omega) only [nrm, lk_nrm, dc_nrm, mk_nrm, mf_nrm, ti_nrm, ls_nrm, mp_nrm, nb_nrm, hset, pick_and, pick_or, ↓reduceIte, Nat.reduceAdd, wI64, wI32, wI16, wI8, wU8, List.length_map, Int.toNat_natCast, List.length_replicate]; rfl)
  refine awp_cond rfl (fun hc0 => ?_) (fun hc0 => ?_)
  · skip
    have hlti : i < xs.length := by simpa using hc0
    have hcl := cpyD_len mv0 xs i hii
    have hgm := mvs_get xs i hlti
    have hgm2 := mvs_get (cpyD mv0 xs i) i (by omega)
    refine awp_skip ?_
    refine awp_seq ?_
    refine awp_block ?_
    refine r1 T0_ok hP hm hN ?_
    refine g1 ?_ (hst := by simp +decide (disch := omega) only [nrm, lk_nrm, dc_nrm, mk_nrm, mf_nrm, ti_nrm, ls_nrm, mp_nrm, nb_nrm, hset, pick_and, pick_or, ↓reduceIte, Nat.reduceAdd, wI64, wI32, wI16, wI8, wU8, List.length_map, Int.toNat_natCast, List.length_replicate]; rfl)
    refine g1 ?_ (hst := by simp +decide (disch := omega) only [nrm, lk_nrm, dc_nrm, mk_nrm, mf_nrm, ti_nrm, ls_nrm, mp_nrm, nb_nrm, hset, pick_and, pick_or, ↓reduceIte, Nat.reduceAdd, wI64, wI32, wI16, wI8, wU8, List.length_map, Int.toNat_natCast, List.length_replicate]; rfl)
    refine g1 ?_ (hst := by simp +decide (disch := omega) only [nrm, lk_nrm, dc_nrm, mk_nrm, mf_nrm, ti_nrm, ls_nrm, mp_nrm, nb_nrm, hset, pick_and, pick_or, ↓reduceIte, Nat.reduceAdd, wI64, wI32, wI16, wI8, wU8, List.length_map, Int.toNat_natCast, List.length_replicate]; rfl)
    refine g1 ?_ (hst := by simp +decide (disch := omega) only [nrm, lk_nrm, dc_nrm, mk_nrm, mf_nrm, ti_nrm, ls_nrm, mp_nrm, nb_nrm, hset, pick_and, pick_or, ↓reduceIte, Nat.reduceAdd, wI64, wI32, wI16, wI8, wU8, List.length_map, Int.toNat_natCast, List.length_replicate]; rfl)
    refine g1 ?_ (hst := by simp +decide (disch := omega) only [nrm, lk_nrm, dc_nrm, mk_nrm, mf_nrm, ti_nrm, ls_nrm, mp_nrm, nb_nrm, hset, pick_and, pick_or, ↓reduceIte, Nat.reduceAdd, wI64, wI32, wI16, wI8, wU8, List.length_map, Int.toNat_natCast, List.length_replicate]; rfl)
    refine g1 ?_ (hst := by simp +decide (disch := omega) only [nrm, lk_nrm, dc_nrm, mk_nrm, mf_nrm, ti_nrm, ls_nrm, mp_nrm, nb_nrm, hset, pick_and, pick_or, ↓reduceIte, Nat.reduceAdd, wI64, wI32, wI16, wI8, wU8, List.length_map, Int.toNat_natCast, List.length_replicate]; rfl)
    refine gc1 ?_ (call1 ok_L_toMove (_, _) []) (hst := by simp +decide (disch := omega) only [nrm, lk_nrm, dc_nrm, mk_nrm, mf_nrm, ti_nrm, ls_nrm, mp_nrm, nb_nrm, hset, pick_and, pick_or, ↓reduceIte, Nat.reduceAdd, wI64, wI32, wI16, wI8, wU8, List.length_map, Int.toNat_natCast, List.length_replicate]; rfl)
    refine g1 ?_ (hst := by simp +decide (disch := omega) only [nrm, lk_nrm, dc_nrm, mk_nrm, mf_nrm, ti_nrm, ls_nrm, mp_nrm, nb_nrm, hset, pick_and, pick_or, ↓reduceIte, Nat.reduceAdd, wI64, wI32, wI16, wI8, wU8, List.length_map, Int.toNat_natCast, List.length_replicate]; rfl)
    refine g1 ?_ (hst := by simp +decide (disch := omega) only [nrm, lk_nrm, dc_nrm, mk_nrm, mf_nrm, ti_nrm, ls_nrm, mp_nrm, nb_nrm, hset, pick_and, pick_or, ↓reduceIte, Nat.reduceAdd, wI64, wI32, wI16, wI8, wU8, List.length_map, Int.toNat_natCast, List.length_replicate]; rfl)
    refine r1 T0_ok hP hm hN ?_
    refine g1 ?_ (hst := by simp +decide (disch := omega) only [nrm, lk_nrm, dc_nrm, mk_nrm, mf_nrm, ti_nrm, ls_nrm, mp_nrm, nb_nrm, hset, pick_and, pick_or, ↓reduceIte, Nat.reduceAdd, wI64, wI32, wI16, wI8, wU8, List.length_map, Int.toNat_natCast, List.length_replicate]; rfl)
    refine g1 ?_ (hst := by simp +decide (disch := omega) only [nrm, lk_nrm, dc_nrm, mk_nrm, mf_nrm, ti_nrm, ls_nrm, mp_nrm, nb_nrm, hset, pick_and, pick_or, ↓reduceIte, Nat.reduceAdd, wI64, wI32, wI16, wI8, wU8, List.length_map, Int.toNat_natCast, List.length_replicate]; rfl)
    refine g1 ?_ (hst := by simp +decide (disch := omega) only [nrm, lk_nrm, dc_nrm, mk_nrm, mf_nrm, ti_nrm, ls_nrm, mp_nrm, nb_nrm, hset, pick_and, pick_or, ↓reduceIte, Nat.reduceAdd, wI64, wI32, wI16, wI8, wU8, List.length_map, Int.toNat_natCast, List.length_replicate]; rfl)
    refine ⟨xs.length - (i + 1), _, by omega, (by rw [← cpyD_set _ _ _ hlti, mvs_set]; exact weak_sl (sub_cons rfl (sub_cons rfl (sub_cons rfl (sub_nil))))), i + 1, by omega, rfl, rfl⟩
  · skip
    have hgei : ¬ i < xs.length := by simpa using hc0
    have heqi : i = xs.length := by omega
    rw [heqi, cpyD_all]
    refine awp_exit ?_
    repeat refine thenA_exit ?_
    refine blockA_hit ?_
    refine awp_seq ?_
    refine r1 T0_ok hP hm hN ?_
    refine g1 ?_ (hst := by simp +decide (disch := omega) only [nrm, lk_nrm, dc_nrm, mk_nrm, mf_nrm, ti_nrm, ls_nrm, mp_nrm, nb_nrm, hset, pick_and, pick_or, ↓reduceIte, Nat.reduceAdd, wI64, wI32, wI16, wI8, wU8, List.length_map, Int.toNat_natCast, List.length_replicate]; rfl)
    refine g1 ?_ (hst := by simp +decide (disch := omega) only [nrm, lk_nrm, dc_nrm, mk_nrm, mf_nrm, ti_nrm, ls_nrm, mp_nrm, nb_nrm, hset, pick_and, pick_or, ↓reduceIte, Nat.reduceAdd, wI64, wI32, wI16, wI8, wU8, List.length_map, Int.toNat_natCast, List.length_replicate]; rfl)
    refine awp_ret ?_
    refine fin_mk [0] rfl rfl ?_ (objs_cons rfl rfl rfl rfl rfl (.inl rfl) objs_nil) (by decide)
    rfl

noncomputable abbrev s_L_szMoveS : Spec (List Mv × Int) where
  args := fun x => [.sl 2 (mvs x.1), .val (.int .i64 x.2)]
  pre := fun x => x.1.length ≤ 9223372036854775807 ∧ 0 ≤ x.2 ∧ x.2 ≤ 1048576
  res := fun x => .val (.int .i64 (if (x.1.length : Int) ≤ x.2 then x.2 - x.1.length else -1))

set_option maxRecDepth 20000 in
set_option maxHeartbeats 1000000 in
theorem ok_L_szMoveS : FnOk Pr 19 s_L_szMoveS := by
  refine fn_ok 2 0 T0_ok Go.Proofs.Try.func19 rfl (enters_of Go.Proofs.Try.func19 rfl rfl) (fun _ => rfl) (fun _ => rfl) (fun _ => rfl) ?_
  rintro ⟨xs, k⟩ ⟨hp, hk⟩ C hP hN hm hG
  change awp C _ _ ⟨[(0, .sl 2 (mvs xs)), (1, .val (.int .i64 k))], [], 0⟩
  simp only at hp hk
  refine awp_seq ?_
  refine r1 T0_ok hP hm hN ?_
  refine g1 ?_
  refine awp_seq ?_
  refine r1 T0_ok hP hm hN ?_
  refine g1 ?_
  refine g1 ?_
  refine g1 ?_
  refine g1 ?_
  refine g1 ?_
  refine awp_seq ?_
  refine awp_seq ?_
  refine r1 T0_ok hP hm hN ?_
  refine g1 ?_
  refine g1 ?_
  refine awp_cond rfl (fun hc0 => ?_) (fun hc0 => ?_)
  · skip
    refine awp_seq ?_
    refine r1 T0_ok hP hm hN ?_
    refine g1 ?_
    refine awp_ret ?_
    refine fin_mk [] rfl rfl ?_ trivial (by decide)
    simp only [decide_eq_true_eq] at hc0
    show D.val (.int .i64 (if (xs.length : Int) ≤ k then k - xs.length else -1)) = _
    rw [if_neg (by omega)]
    rfl
  · skip
    refine awp_skip ?_
    refine awp_seq ?_
    refine r1 T0_ok hP hm hN ?_
    refine g1 ?_
    refine g1 ?_
    refine awp_ret ?_
    refine fin_mk [] rfl rfl ?_ trivial (by decide)
    simp only [decide_eq_false_iff_not] at hc0
    show D.val (.int .i64 (if (xs.length : Int) ≤ k then k - xs.length else -1)) = _
    rw [if_pos (by omega)]
    rfl

noncomputable abbrev s_L_FnExactCheckMoves : Spec (List Bk × List (Int × Int)) where
  args := fun x => [.sl 8 (bks x.1), .sl 2 (mvs x.2)]
  pre := fun x => ((∀ b ∈ x.1, isBk b) ∧ x.1.length ≤ 9223372036854775807) ∧ ((∀ b ∈ x.2, isMv b) ∧ x.2.length ≤ 9223372036854775807)
  res := fun x => .val (.bool true)

set_option maxRecDepth 20000 in
set_option maxHeartbeats 8000000 in
theorem ok_L_FnExactCheckMoves : FnOk Pr 6 s_L_FnExactCheckMoves := by
  refine fn_ok 2 0 T0_ok Go.Proofs.Try.func6 rfl (enters_of Go.Proofs.Try.func6 rfl rfl) (fun _ => rfl) (fun _ => rfl) (fun _ => rfl) ?_
  rintro ⟨xs, ms⟩ ⟨⟨hv, hl0⟩, hms, hml0⟩ C hP hN hm hG
  change awp C _ _ ⟨[(0, .sl 8 (bks xs)), (1, .sl 2 (mvs ms))], [], 0⟩
  simp only at hv hl0 hms hml0
  have hs := mvAR_len xs ms
  refine awp_seq ?_
  refine r1 T0_ok hP hm hN ?_
  refine g1 ?_
  refine awp_seq ?_
  refine r1 T0_ok hP hm hN ?_
  refine g1 ?_
  refine awp_seq ?_
  refine r1 T0_ok hP hm hN ?_
  refine g1 ?_
  refine g1 ?_
  refine gc1 ?_ (call1 ok_L_szBookS (_, _) [] (hpre := by (try dsimp only); exact ⟨hl0, by omega, by omega⟩))
  refine g1 ?_
  refine awp_seq ?_
  refine awp_seq ?_
  refine r1 T0_ok hP hm hN ?_
  refine g1 ?_
  refine g1 ?_
  refine awp_cond rfl (fun hc0 => ?_) (fun hc0 => ?_)
  · skip
    refine awp_seq ?_
    refine r1 T0_ok hP hm hN ?_
    refine g1 ?_
    refine awp_ret ?_
    refine fin_mk [] rfl rfl ?_ trivial (by decide)
    rfl
  · skip
    have hl : xs.length ≤ 1048576 := by simp only [decide_eq_false_iff_not] at hc0; split at hc0 <;> omega
    rw [if_pos (by omega)] at *
    refine awp_skip ?_
    refine awp_seq ?_
    refine r1 T0_ok hP hm hN ?_
    refine g1 ?_
    refine g1 ?_
    refine gc1 ?_ (call1 ok_L_szMoveS (_, _) [] (hpre := by (try dsimp only); exact ⟨hml0, by omega, by omega⟩))
    refine g1 ?_
    refine awp_seq ?_
    refine awp_seq ?_
    refine r1 T0_ok hP hm hN ?_
    refine g1 ?_
    refine g1 ?_
    refine awp_cond rfl (fun hc1 => ?_) (fun hc1 => ?_)
    · skip
      refine awp_seq ?_
      refine r1 T0_ok hP hm hN ?_
      refine g1 ?_
      refine awp_ret ?_
      refine fin_mk [] rfl rfl ?_ trivial (by decide)
      rfl
    · skip
      have hml : ms.length ≤ 1048576 := by simp only [decide_eq_false_iff_not] at hc1; split at hc1 <;> omega
      refine awp_skip ?_
      refine awp_seq ?_
      refine r1 T0_ok hP hm hN ?_
      refine g1 ?_
      refine gc1 ?_ (call1 ok_L_toBookS _ [] (hpre := by (try dsimp only); exact hl))
      refine g1 ?_
      refine gc1 ?_ (call1 ok_L_toMoveS _ [] (hpre := by (try dsimp only); exact hml) (hfo := by exact fm_cons (flat_mvs _ _ _ _) fm_nil))
      refine gc1 ?_ (call1 ok_S_CheckMoves (xs, ms) [] (hpre := by (try dsimp only); exact ⟨⟨hv, hl⟩, hms, hml⟩))
      refine g1 ?_
      refine g1 ?_
      refine g1 ?_
      refine g1 ?_
      refine g1 ?_
      refine awp_seq ?_
      refine r1 T0_ok hP hm hN ?_
      refine g1 ?_
      refine gc1 ?_ (call1 ok_L_toBookS _ [] (hpre := by (try dsimp only); exact hl))
      refine g1 ?_
      refine awp_seq ?_
      refine r1 T0_ok hP hm hN ?_
      refine g1 ?_
      refine gc1 ?_ (call1 ok_L_toMoveS _ [] (hpre := by (try dsimp only); exact hml) (hfo := by exact fm_cons (flat_mvs _ _ _ _) fm_nil))
      refine g1 ?_
      refine awp_seq ?_
      refine r1 T0_ok hP hm hN ?_
      refine g1 ?_
      refine g1 ?_
      refine gc1 ?_ (call1 ok_I_CheckMoves (xs, ms) [] (hpre := by (try dsimp only); exact ⟨⟨hv, hl⟩, hms, hml⟩))
      refine g1 ?_
      refine g1 ?_
      refine g1 ?_
      refine g1 ?_
      refine g1 ?_
      refine awp_seq ?_
      refine awp_seq ?_
      refine r1 T0_ok hP hm hN ?_
      refine g1 ?_
      refine g1 ?_
      refine g1 ?_
      refine g1 ?_
      refine gg1 ?_
      refine gg1 ?_
      refine gg1 ?_
      refine g1 ?_
      refine awp_cond rfl (fun hc2 => ?_) (fun hc2 => ?_)
      · skip
        exfalso; first | (simp [ask] at hc2; done) | (simp [ask] at hc2; omega)
      · skip
        refine awp_skip ?_
        refine awp_seq ?_
        refine awp_seq ?_
        refine r1 T0_ok hP hm hN ?_
        refine g1 ?_
        refine g1 ?_
        refine gc1 ?_ (call1 ok_L_toBookS _ [] (hpre := by (try dsimp only); exact hl))
        refine gc1 ?_ (call1 ok_L_eqBookS (_, _) [] (hpre := by (try dsimp only); exact ⟨by omega, by omega⟩))
        refine g1 ?_
        refine awp_cond rfl (fun hc3 => ?_) (fun hc3 => ?_)
        · skip
          exfalso; first | (simp [ask] at hc3; done) | (simp [ask] at hc3; omega)
        · skip
          refine awp_skip ?_
          refine awp_seq ?_
          refine awp_seq ?_
          refine r1 T0_ok hP hm hN ?_
          refine g1 ?_
          refine g1 ?_
          refine gc1 ?_ (call1 ok_L_toMoveS _ [] (hpre := by (try dsimp only); exact hml) (hfo := by exact fm_cons (flat_mvs _ _ _ _) fm_nil))
          refine gc1 ?_ (call1 ok_L_eqMoveS (_, _) [] (hpre := by (try dsimp only); exact ⟨by omega, by omega⟩))
          refine g1 ?_
          refine awp_cond rfl (fun hc4 => ?_) (fun hc4 => ?_)
          · skip
            exfalso; first | (simp [ask] at hc4; done) | (simp [ask] at hc4; omega)
          · skip
            refine awp_skip ?_
            refine awp_seq ?_
            refine r1 T0_ok hP hm hN ?_
            refine g1 ?_
            refine awp_ret ?_
            refine fin_mk [] rfl rfl ?_ trivial (by decide)
            rfl

noncomputable abbrev s_L_FnExactMoveAll : Spec (List Bk × List (Int × Int)) where
  args := fun x => [.sl 8 (bks x.1), .sl 2 (mvs x.2)]
  pre := fun x => ((∀ b ∈ x.1, isBk b) ∧ x.1.length ≤ 9223372036854775807) ∧ ((∀ b ∈ x.2, isMv b) ∧ x.2.length ≤ 9223372036854775807)
  res := fun x => .val (.bool true)

set_option maxRecDepth 20000 in
set_option maxHeartbeats 8000000 in
theorem ok_L_FnExactMoveAll : FnOk Pr 5 s_L_FnExactMoveAll := by
  refine fn_ok 2 0 T0_ok Go.Proofs.Try.func5 rfl (enters_of Go.Proofs.Try.func5 rfl rfl) (fun _ => rfl) (fun _ => rfl) (fun _ => rfl) ?_
  rintro ⟨xs, ms⟩ ⟨⟨hv, hl0⟩, hms, hml0⟩ C hP hN hm hG
  change awp C _ _ ⟨[(0, .sl 8 (bks xs)), (1, .sl 2 (mvs ms))], [], 0⟩
  simp only at hv hl0 hms hml0
  have hs := mvAR_len xs ms
  refine awp_seq ?_
  refine r1 T0_ok hP hm hN ?_
  refine g1 ?_
  refine awp_seq ?_
  refine r1 T0_ok hP hm hN ?_
  refine g1 ?_
  refine awp_seq ?_
  refine r1 T0_ok hP hm hN ?_
  refine g1 ?_
  refine g1 ?_
  refine gc1 ?_ (call1 ok_L_szBookS (_, _) [] (hpre := by (try dsimp only); exact ⟨hl0, by omega, by omega⟩))
  refine g1 ?_
  refine awp_seq ?_
  refine awp_seq ?_
  refine r1 T0_ok hP hm hN ?_
  refine g1 ?_
  refine g1 ?_
  refine awp_cond rfl (fun hc0 => ?_) (fun hc0 => ?_)
  · skip
    refine awp_seq ?_
    refine r1 T0_ok hP hm hN ?_
    refine g1 ?_
    refine awp_ret ?_
    refine fin_mk [] rfl rfl ?_ trivial (by decide)
    rfl
  · skip
    have hl : xs.length ≤ 1048576 := by simp only [decide_eq_false_iff_not] at hc0; split at hc0 <;> omega
    rw [if_pos (by omega)] at *
    refine awp_skip ?_
    refine awp_seq ?_
    refine r1 T0_ok hP hm hN ?_
    refine g1 ?_
    refine g1 ?_
    refine gc1 ?_ (call1 ok_L_szMoveS (_, _) [] (hpre := by (try dsimp only); exact ⟨hml0, by omega, by omega⟩))
    refine g1 ?_
    refine awp_seq ?_
    refine awp_seq ?_
    refine r1 T0_ok hP hm hN ?_
    refine g1 ?_
    refine g1 ?_
    refine awp_cond rfl (fun hc1 => ?_) (fun hc1 => ?_)
    · skip
      refine awp_seq ?_
      refine r1 T0_ok hP hm hN ?_
      refine g1 ?_
      refine awp_ret ?_
      refine fin_mk [] rfl rfl ?_ trivial (by decide)
      rfl
    · skip
      have hml : ms.length ≤ 1048576 := by simp only [decide_eq_false_iff_not] at hc1; split at hc1 <;> omega
      refine awp_skip ?_
      refine awp_seq ?_
      refine r1 T0_ok hP hm hN ?_
      refine g1 ?_
      refine gc1 ?_ (call1 ok_L_toBookS _ [] (hpre := by (try dsimp only); exact hl))
      refine g1 ?_
      refine gc1 ?_ (call1 ok_L_toMoveS _ [] (hpre := by (try dsimp only); exact hml) (hfo := by exact fm_cons (flat_mvs _ _ _ _) fm_nil))
      refine gc1 ?_ (call1 ok_S_MoveAll (xs, ms) [] (hpre := by (try dsimp only); exact ⟨⟨hv, hl⟩, hms, hml⟩))
      refine g1 ?_
      refine g1 ?_
      refine g1 ?_
      refine g1 ?_
      refine g1 ?_
      refine awp_seq ?_
      refine r1 T0_ok hP hm hN ?_
      refine g1 ?_
      refine gc1 ?_ (call1 ok_L_toBookS _ [] (hpre := by (try dsimp only); exact hl))
      refine g1 ?_
      refine awp_seq ?_
      refine r1 T0_ok hP hm hN ?_
      refine g1 ?_
      refine gc1 ?_ (call1 ok_L_toMoveS _ [] (hpre := by (try dsimp only); exact hml) (hfo := by exact fm_cons (flat_mvs _ _ _ _) fm_nil))
      refine g1 ?_
      refine awp_seq ?_
      refine r1 T0_ok hP hm hN ?_
      refine g1 ?_
      refine g1 ?_
      refine gc1 ?_ (call1 ok_I_MoveAll (xs, ms) [] (hpre := by (try dsimp only); exact ⟨⟨hv, hl⟩, hms, hml⟩))
      refine g1 ?_
      refine g1 ?_
      refine g1 ?_
      refine g1 ?_
      refine g1 ?_
      refine awp_seq ?_
      refine awp_seq ?_
      refine r1 T0_ok hP hm hN ?_
      refine g1 ?_
      refine g1 ?_
      refine gc1 ?_ (call1 ok_L_eqBookS (_, _) [] (hpre := by (try dsimp only); exact ⟨by omega, by omega⟩))
      refine g1 ?_
      refine g1 ?_
      refine gg1 ?_
      refine gg1 ?_
      refine gg1 ?_
      refine g1 ?_
      refine awp_cond rfl (fun hc2 => ?_) (fun hc2 => ?_)
      · skip
        exfalso; first | (simp [ask] at hc2; done) | (simp [ask] at hc2; omega)
      · skip
        refine awp_skip ?_
        refine awp_seq ?_
        refine awp_seq ?_
        refine r1 T0_ok hP hm hN ?_
        refine g1 ?_
        refine g1 ?_
        refine gc1 ?_ (call1 ok_L_toBookS _ [] (hpre := by (try dsimp only); exact hl))
        refine gc1 ?_ (call1 ok_L_eqBookS (_, _) [] (hpre := by (try dsimp only); exact ⟨by omega, by omega⟩))
        refine g1 ?_
        refine awp_cond rfl (fun hc3 => ?_) (fun hc3 => ?_)
        · skip
          exfalso; first | (simp [ask] at hc3; done) | (simp [ask] at hc3; omega)
        · skip
          refine awp_skip ?_
          refine awp_seq ?_
          refine awp_seq ?_
          refine r1 T0_ok hP hm hN ?_
          refine g1 ?_
          refine g1 ?_
          refine gc1 ?_ (call1 ok_L_toMoveS _ [] (hpre := by (try dsimp only); exact hml) (hfo := by exact fm_cons (flat_mvs _ _ _ _) fm_nil))
          refine gc1 ?_ (call1 ok_L_eqMoveS (_, _) [] (hpre := by (try dsimp only); exact ⟨by omega, by omega⟩))
          refine g1 ?_
          refine awp_cond rfl (fun hc4 => ?_) (fun hc4 => ?_)
          · skip
            exfalso; first | (simp [ask] at hc4; done) | (simp [ask] at hc4; omega)
          · skip
            refine awp_skip ?_
            refine awp_seq ?_
            refine r1 T0_ok hP hm hN ?_
            refine g1 ?_
            refine awp_seq ?_
            refine r1 T0_ok hP hm hN ?_
            refine g1 ?_
            refine g1 ?_
            refine gc1 ?_ (call1 ok_L_markBookS (xs, _) [3] (hpre := by (try dsimp only); exact ⟨by omega, by omega, by omega⟩))
            refine g1 ?_
            refine awp_seq ?_
            refine r1 T0_ok hP hm hN ?_
            refine g1 ?_
            refine g1 ?_
            refine gc1 ?_ (call1 ok_L_markMoveS (ms, _) [4] (hpre := by (try dsimp only); exact ⟨by omega, by omega, by omega⟩) (hfo := by intro o ho; first | cases ho; done | (simp only [List.mem_append, List.mem_cons, List.not_mem_nil, or_false, false_or] at ho; (try rcases ho with rfl | rfl); (try subst ho); exact flat_mvs _ _ _ _) | (simp only [List.nil_append, List.mem_singleton] at ho; subst ho; exact flat_mvs _ _ _ _)))
            refine g1 ?_
            refine awp_seq ?_
            refine awp_seq ?_
            refine r1 T0_ok hP hm hN ?_
            refine g1 ?_
            refine g1 ?_
            refine g1 ?_
            refine gg1 ?_
            refine gg1 ?_
            refine ggc1 ?_ (hs := by intro hb; simp +decide only [hb, gd_tt, gd_ff, beq_self_eq_true, Bool.true_and, beq_true]; exact ⟨rfl, _, call1 ok_L_eqBookS (_, _) [] (hpre := by (try dsimp only); exact ⟨by omega, by omega⟩), rfl, rfl, rfl⟩)
            refine gg1 ?_
            refine g1 ?_
            refine g1 ?_
            refine gg1 ?_
            refine gg1 ?_
            refine gg1 ?_
            refine g1 ?_
            refine awp_cond rfl (fun hc5 => ?_) (fun hc5 => ?_)
            · skip
              exfalso; first | (simp [ask] at hc5; done) | (simp [ask] at hc5; omega)
            · skip
              refine awp_skip ?_
              refine awp_seq ?_
              refine r1 T0_ok hP hm hN ?_
              refine g1 ?_
              refine awp_seq ?_
              refine r1 T0_ok hP hm hN ?_
              refine g1 ?_
              refine g1 ?_
              refine gc1 ?_ (call1 ok_L_markBookS ((mvAR xs ms).1, _) [5] (hpre := by (try dsimp only); exact ⟨by omega, by omega, by omega⟩))
              refine g1 ?_
              refine awp_seq ?_
              refine r1 T0_ok hP hm hN ?_
              refine g1 ?_
              refine awp_seq ?_
              refine r1 T0_ok hP hm hN ?_
              refine g1 ?_
              refine g1 ?_
              refine gc1 ?_ (call1 ok_L_heldBookS (mkd_book (mvAR xs ms).1.length 1, _) [] (hpre := by (try dsimp only); exact ⟨by rw [mkd_book_len]; omega, by omega, by rw [mkd_book_len]; omega⟩)) (hst := by simp +decide (disch := omega) only [nrm, lk_nrm, dc_nrm, mk_nrm, mf_nrm, ti_nrm, ls_nrm, mp_nrm, nb_nrm, hset, pick_and, pick_or, ↓reduceIte, Nat.reduceAdd, wI64, wI32, wI16, wI8, wU8, List.length_map, Int.toNat_natCast, heldR_book_mkd]; rfl)
              refine g1 ?_
              refine awp_seq ?_
              refine awp_seq ?_
              refine r1 T0_ok hP hm hN ?_
              refine g1 ?_
              refine g1 ?_
              refine awp_cond rfl (fun hc6 => ?_) (fun hc6 => ?_)
              · skip
                exfalso; first | (simp [ask] at hc6; done) | (simp [ask] at hc6; omega)
              · skip
                refine awp_skip ?_
                refine awp_seq ?_
                refine awp_seq ?_
                refine r1 T0_ok hP hm hN ?_
                refine g1 ?_
                refine g1 ?_
                refine g1 ?_
                refine awp_cond rfl (fun hc7 => ?_) (fun hc7 => ?_)
                · skip
                  exfalso; first | (simp [ask] at hc7; done) | (simp [ask] at hc7; omega)
                · skip
                  refine awp_skip ?_
                  refine awp_seq ?_
                  refine r1 T0_ok hP hm hN ?_
                  refine g1 ?_
                  refine gc1 ?_ (call1 ok_L_toBookS _ [] (hpre := by (try dsimp only); exact hl))
                  refine g1 ?_
                  refine gc1 ?_ (call1 ok_L_toMoveS _ [] (hpre := by (try dsimp only); exact hml) (hfo := by exact fm_cons (flat_mvs _ _ _ _) fm_nil))
                  refine gc1 ?_ (call1 ok_I_MoveAll (xs, ms) [] (hpre := by (try dsimp only); exact ⟨⟨hv, hl⟩, hms, hml⟩))
                  refine g1 ?_
                  refine g1 ?_
                  refine g1 ?_
                  refine g1 ?_
                  refine g1 ?_
                  refine awp_seq ?_
                  refine awp_seq ?_
                  refine r1 T0_ok hP hm hN ?_
                  refine g1 ?_
                  refine g1 ?_
                  refine gc1 ?_ (call1 ok_L_eqBookS (_, _) [] (hpre := by (try dsimp only); exact ⟨by omega, by omega⟩))
                  refine g1 ?_
                  refine g1 ?_
                  refine gg1 ?_
                  refine gg1 ?_
                  refine gg1 ?_
                  refine g1 ?_
                  refine awp_cond rfl (fun hc8 => ?_) (fun hc8 => ?_)
                  · skip
                    exfalso; first | (simp [ask] at hc8; done) | (simp [ask] at hc8; omega)
                  · skip
                    refine awp_skip ?_
                    refine awp_seq ?_
                    refine r1 T0_ok hP hm hN ?_
                    refine g1 ?_
                    refine awp_seq ?_
                    refine r1 T0_ok hP hm hN ?_
                    refine g1 ?_
                    refine g1 ?_
                    refine gc1 ?_ (call1 ok_L_heldBookS (mkd_book (mvAR xs ms).1.length 1, _) [] (hpre := by (try dsimp only); exact ⟨by rw [mkd_book_len]; omega, by omega, by rw [mkd_book_len]; omega⟩)) (hst := by simp +decide (disch := omega) only [nrm, lk_nrm, dc_nrm, mk_nrm, mf_nrm, ti_nrm, ls_nrm, mp_nrm, nb_nrm, hset, pick_and, pick_or, ↓reduceIte, Nat.reduceAdd, wI64, wI32, wI16, wI8, wU8, List.length_map, Int.toNat_natCast, heldR_book_mkd]; rfl)
                    refine g1 ?_
                    refine awp_seq ?_
                    refine awp_seq ?_
                    refine r1 T0_ok hP hm hN ?_
                    refine g1 ?_
                    refine g1 ?_
                    refine awp_cond rfl (fun hc9 => ?_) (fun hc9 => ?_)
                    · skip
                      exfalso; first | (simp [ask] at hc9; done) | (simp [ask] at hc9; omega)
                    · skip
                      refine awp_skip ?_
                      refine awp_seq ?_
                      refine awp_seq ?_
                      refine r1 T0_ok hP hm hN ?_
                      refine g1 ?_
                      refine g1 ?_
                      refine g1 ?_
                      refine awp_cond rfl (fun hc10 => ?_) (fun hc10 => ?_)
                      · skip
                        exfalso; first | (simp [ask] at hc10; done) | (simp [ask] at hc10; omega)
                      · skip
                        refine awp_skip ?_
                        refine awp_seq ?_
                        refine r1 T0_ok hP hm hN ?_
                        refine g1 ?_
                        refine awp_ret ?_
                        refine fin_mk [] rfl rfl ?_ trivial (by decide)
                        rfl
end Go.Proofs.Ytkfbpfkomppefaa.Abs
