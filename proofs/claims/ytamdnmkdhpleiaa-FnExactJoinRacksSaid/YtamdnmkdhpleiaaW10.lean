import Derived.Test.YtamdnmkdhpleiaaW9
set_option linter.unusedVariables false
set_option linter.unusedSimpArgs false
namespace Go.Proofs.Ytamdnmkdhpleiaa.Abs
open Go Go.RowKit
abbrev rackD (x : Int × List Pl) : D := .agg [.val (.int .i16 x.1), .sl 9 (pls x.2)]

noncomputable abbrev s_L_toPlaced : Spec Pl where
  args := fun x => [plD x]
  res := fun x => plD x

set_option maxRecDepth 20000 in
set_option maxHeartbeats 1000000 in
theorem ok_L_toPlaced : FnOk Pr 29 s_L_toPlaced := by
  refine fn_ok 1 0 T0_ok Go.Proofs.Try.func29 rfl (enters_of Go.Proofs.Try.func29 rfl rfl) (fun _ => rfl) (fun _ => rfl) (fun _ => rfl) ?_
  rintro x - C hP hN hm hG
  change awp C _ _ ⟨[(0, .val (.agg #[.int .i16 x.1, .int .i16 x.2.cls, .int .u8 x.2.m0, .int .u8 x.2.m1, .int .u8 x.2.m2, .int .i16 x.2.vol, .int .i16 x.2.wide, .int .i16 x.2.high, .int .i16 x.2.weight]))], [], 0⟩
  refine awp_seq ?_
  refine r1 T0_ok hP hm hN ?_
  refine g1 ?_
  refine g1 ?_
  refine awp_seq ?_
  refine r1 T0_ok hP hm hN ?_
  refine g1 ?_
  refine awp_seq ?_
  refine r1 T0_ok hP hm hN ?_
  refine g1 ?_
  refine g1 ?_
  refine g1 ?_
  refine g1 ?_
  refine awp_seq ?_
  refine r1 T0_ok hP hm hN ?_
  refine g1 ?_
  refine g1 ?_
  refine gc1 ?_ (call1 ok_L_toBook _ [])
  refine g1 ?_
  refine g1 ?_
  refine awp_seq ?_
  refine r1 T0_ok hP hm hN ?_
  refine g1 ?_
  refine g1 ?_
  refine awp_ret ?_
  refine fin_mk [] rfl rfl ?_ trivial (by decide)
  rfl

noncomputable abbrev s_L_toPlacedS : Spec (List Pl) where
  args := fun xs => [.sl 9 (pls xs)]
  pre := fun xs => xs.length ≤ 1048576
  new := fun xs => [⟨47, 9, false, pls xs⟩]
  res := fun xs => .own 0

set_option maxRecDepth 20000 in
set_option maxHeartbeats 1000000 in
theorem ok_L_toPlacedS : FnOk Pr 17 s_L_toPlacedS := by
  refine fn_ok 1 0 T0_ok Go.Proofs.Try.func17 rfl (enters_of Go.Proofs.Try.func17 rfl rfl) (fun _ => rfl) (fun _ => rfl) (fun _ => rfl) ?_
  rintro xs hp C hP hN hm hG
  change awp C _ _ ⟨[(0, .sl 9 (pls xs))], [], 0⟩
  have hp : xs.length ≤ 1048576 := hp
  refine awp_seq ?_
  refine r1 T0_ok hP hm hN ?_
  refine g1 ?_ (hst := by simp +decide (disch := omega) only [nrm, lk_nrm, dc_nrm, mk_nrm, mf_nrm, ti_nrm, ls_nrm, mp_nrm, nb_nrm, hset, pick_and, pick_or, ↓reduceIte, Nat.reduceAdd, wI64, wI32, wI16, wI8, wU8, List.length_map, Int.toNat_natCast, List.length_replicate]; rfl)
  refine awp_seq ?_
  refine r1 T0_ok hP hm hN ?_
  refine g1 ?_ (hst := by simp +decide (disch := omega) only [nrm, lk_nrm, dc_nrm, mk_nrm, mf_nrm, ti_nrm, ls_nrm, mp_nrm, nb_nrm, hset, pick_and, pick_or, ↓reduceIte, Nat.reduceAdd, wI64, wI32, wI16, wI8, wU8, List.length_map, Int.toNat_natCast, List.length_replicate]; rfl)
  refine g1 ?_ (hst := by simp +decide (disch := omega) only [nrm, lk_nrm, dc_nrm, mk_nrm, mf_nrm, ti_nrm, ls_nrm, mp_nrm, nb_nrm, hset, pick_and, pick_or, ↓reduceIte, Nat.reduceAdd, wI64, wI32, wI16, wI8, wU8, List.length_map, Int.toNat_natCast, List.length_replicate]; rfl)
  refine g1 ?_ (hst := by simp +decide (disch := omega) only [nrm, lk_nrm, dc_nrm, mk_nrm, mf_nrm, ti_nrm, ls_nrm, mp_nrm, nb_nrm, hset, pick_and, pick_or, ↓reduceIte, Nat.reduceAdd, wI64, wI32, wI16, wI8, wU8, List.length_map, Int.toNat_natCast, List.length_replicate]; rfl)
  refine g1 ?_ (hst := by simp +decide (disch := omega) only [nrm, lk_nrm, dc_nrm, mk_nrm, mf_nrm, ti_nrm, ls_nrm, mp_nrm, nb_nrm, hset, pick_and, pick_or, ↓reduceIte, Nat.reduceAdd, wI64, wI32, wI16, wI8, wU8, List.length_map, Int.toNat_natCast, List.length_replicate]; rfl)
  refine awp_seq ?_
  refine awp_seq ?_
  refine r1 T0_ok hP hm hN ?_
  refine g1 ?_ (hst := by simp +decide (disch := omega) only [nrm, lk_nrm, dc_nrm, mk_nrm, mf_nrm, ti_nrm, ls_nrm, mp_nrm, nb_nrm, hset, pick_and, pick_or, ↓reduceIte, Nat.reduceAdd, wI64, wI32, wI16, wI8, wU8, List.length_map, Int.toNat_natCast, List.length_replicate]; rfl)
  refine awp_block ?_
  refine awp_loop (fun n st => ∃ i : Nat, i ≤ xs.length ∧ n = xs.length - i ∧ st = ⟨[(4, .val (.int .i64 (i : Nat))), (3, .own 0), (0, .sl 9 (pls xs))], [(0, ⟨47, 9, false, pls (cpyD pl0 xs i)⟩)], 1⟩) (xs.length) ⟨_, (by rw [cpyD_zero, pls_rep]; exact weak_sl (sub_cons rfl (sub_cons rfl (sub_cons rfl (sub_nil))))), 0, by omega, rfl, rfl⟩ ?_
  rintro n st ⟨i, hii, hni, rfl⟩
  refine awp_seq ?_
  refine awp_seq ?_
  refine r1 T0_ok hP hm hN ?_
  refine g1 ?_ (hst := by simp +decide (disch := omega) only [nrm, lk_nrm, dc_nrm, mk_nrm, mf_nrm, ti_nrm, ls_nrm, mp_nrm, nb_nrm, hset, pick_and, pick_or, ↓reduceIte, Nat.reduceAdd, wI64, wI32, wI16, wI8, wU8, List.length_map, Int.toNat_natCast, List.length_replicate]; rfl)
  refine g1 ?_ (hst := by simp +decide (disch := omega) only [nrm, lk_nrm, dc_nrm, mk_nrm, mf_nrm, ti_nrm, ls_nrm, mp_nrm, nb_nrm, hset, pick_and, pick_or, ↓reduceIte, Nat.reduceAdd, wI64, wI32, wI16, wI8, wU8, List.length_map, Int.toNat_natCast, List.length_replicate]; rfl)
  refine g1 ?_ (hst := by simp +decide (disch := omega) only [nrm, lk_nrm, dc_nrm, mk_nrm, mf_nrm, ti_nrm, ls_nrm, mp_nrm, nb_nrm, hset, pick_and, pick_or, ↓reduceIte, Nat.reduceAdd, wI64, wI32, wI16, wI8, wU8, List.length_map, Int.toNat_natCast, List.length_replicate]; rfl)
  refine g1 ?_ (hst := by simp +decide (disch := omega) only [nrm, lk_nrm, dc_nrm, mk_nrm, mf_nrm, ti_nrm, ls_nrm, mp_nrm, nb_nrm, hset, pick_and, pick_or, ↓reduceIte, Nat.reduceAdd, wI64, wI32, wI16, wI8, wU8, List.length_map, Int.toNat_natCast, List.length_replicate]; rfl)
  refine awp_cond rfl (fun hc0 => ?_) (fun hc0 => ?_)
  · skip
    have hlti : i < xs.length := by simpa using hc0
    have hcl := cpyD_len pl0 xs i hii
    refine awp_skip ?_
    refine awp_seq ?_
    refine awp_block ?_
    refine r1 T0_ok hP hm hN ?_
    refine g1 ?_ (hst := by simp +decide (disch := omega) only [nrm, lk_nrm, dc_nrm, mk_nrm, mf_nrm, ti_nrm, ls_nrm, mp_nrm, nb_nrm, hset, pick_and, pick_or, ↓reduceIte, Nat.reduceAdd, wI64, wI32, wI16, wI8, wU8, List.length_map, Int.toNat_natCast, List.length_replicate]; rfl)
    refine g1 ?_ (hst := by simp +decide (disch := omega) only [nrm, lk_nrm, dc_nrm, mk_nrm, mf_nrm, ti_nrm, ls_nrm, mp_nrm, nb_nrm, hset, pick_and, pick_or, ↓reduceIte, Nat.reduceAdd, wI64, wI32, wI16, wI8, wU8, List.length_map, Int.toNat_natCast, List.length_replicate]; rfl)
    refine g1 ?_ (hst := by simp +decide (disch := omega) only [nrm, lk_nrm, dc_nrm, mk_nrm, mf_nrm, ti_nrm, ls_nrm, mp_nrm, nb_nrm, hset, pick_and, pick_or, ↓reduceIte, Nat.reduceAdd, wI64, wI32, wI16, wI8, wU8, List.length_map, Int.toNat_natCast, List.length_replicate]; rfl)
    refine g1 ?_ (hst := by simp +decide (disch := omega) only [nrm, lk_nrm, dc_nrm, mk_nrm, mf_nrm, ti_nrm, ls_nrm, mp_nrm, nb_nrm, hset, pick_and, pick_or, ↓reduceIte, Nat.reduceAdd, wI64, wI32, wI16, wI8, wU8, List.length_map, Int.toNat_natCast, List.length_replicate]; rfl)
    refine g1 ?_ (hst := by simp +decide (disch := omega) only [nrm, lk_nrm, dc_nrm, mk_nrm, mf_nrm, ti_nrm, ls_nrm, mp_nrm, nb_nrm, hset, pick_and, pick_or, ↓reduceIte, Nat.reduceAdd, wI64, wI32, wI16, wI8, wU8, List.length_map, Int.toNat_natCast, List.length_replicate]; rfl)
    refine g1 ?_ (hst := by simp +decide (disch := omega) only [nrm, lk_nrm, dc_nrm, mk_nrm, mf_nrm, ti_nrm, ls_nrm, mp_nrm, nb_nrm, hset, pick_and, pick_or, ↓reduceIte, Nat.reduceAdd, wI64, wI32, wI16, wI8, wU8, List.length_map, Int.toNat_natCast, List.length_replicate]; rfl)
    refine gc1 ?_ (call1 ok_L_toPlaced _ []) (hst := by simp +decide (disch := omega) only [nrm, lk_nrm, dc_nrm, mk_nrm, mf_nrm, ti_nrm, ls_nrm, mp_nrm, nb_nrm, hset, pick_and, pick_or, ↓reduceIte, Nat.reduceAdd, wI64, wI32, wI16, wI8, wU8, List.length_map, Int.toNat_natCast, List.length_replicate]; rfl)
    refine g1 ?_ (hst := by simp +decide (disch := omega) only [nrm, lk_nrm, dc_nrm, mk_nrm, mf_nrm, ti_nrm, ls_nrm, mp_nrm, nb_nrm, hset, pick_and, pick_or, ↓reduceIte, Nat.reduceAdd, wI64, wI32, wI16, wI8, wU8, List.length_map, Int.toNat_natCast, List.length_replicate]; rfl)
    refine g1 ?_ (hst := by simp +decide (disch := omega) only [nrm, lk_nrm, dc_nrm, mk_nrm, mf_nrm, ti_nrm, ls_nrm, mp_nrm, nb_nrm, hset, pick_and, pick_or, ↓reduceIte, Nat.reduceAdd, wI64, wI32, wI16, wI8, wU8, List.length_map, Int.toNat_natCast, List.length_replicate]; rfl)
    refine r1 T0_ok hP hm hN ?_
    refine g1 ?_ (hst := by simp +decide (disch := omega) only [nrm, lk_nrm, dc_nrm, mk_nrm, mf_nrm, ti_nrm, ls_nrm, mp_nrm, nb_nrm, hset, pick_and, pick_or, ↓reduceIte, Nat.reduceAdd, wI64, wI32, wI16, wI8, wU8, List.length_map, Int.toNat_natCast, List.length_replicate]; rfl)
    refine g1 ?_ (hst := by simp +decide (disch := omega) only [nrm, lk_nrm, dc_nrm, mk_nrm, mf_nrm, ti_nrm, ls_nrm, mp_nrm, nb_nrm, hset, pick_and, pick_or, ↓reduceIte, Nat.reduceAdd, wI64, wI32, wI16, wI8, wU8, List.length_map, Int.toNat_natCast, List.length_replicate]; rfl)
    refine g1 ?_ (hst := by simp +decide (disch := omega) only [nrm, lk_nrm, dc_nrm, mk_nrm, mf_nrm, ti_nrm, ls_nrm, mp_nrm, nb_nrm, hset, pick_and, pick_or, ↓reduceIte, Nat.reduceAdd, wI64, wI32, wI16, wI8, wU8, List.length_map, Int.toNat_natCast, List.length_replicate]; rfl)
    refine ⟨xs.length - (i + 1), _, by omega, (by rw [← cpyD_set _ _ _ hlti, pls_set]; exact weak_sl (sub_cons rfl (sub_cons rfl (sub_cons rfl (sub_nil))))), i + 1, by omega, rfl, rfl⟩
  · skip
    have hgei : ¬ i < xs.length := by simpa using hc0
    have heqi : i = xs.length := by omega
    rw [heqi, cpyD_all]
    refine awp_exit ?_
    repeat refine thenA_exit ?_
    refine blockA_hit ?_
    refine awp_seq ?_
    refine r1 T0_ok hP hm hN ?_
    refine g1 ?_ (hst := by simp +decide (disch := omega) only [nrm, lk_nrm, dc_nrm, mk_nrm, mf_nrm, ti_nrm, ls_nrm, mp_nrm, nb_nrm, hset, pick_and, pick_or, ↓reduceIte, Nat.reduceAdd, wI64, wI32, wI16, wI8, wU8, List.length_map, Int.toNat_natCast, List.length_replicate]; rfl)
    refine g1 ?_ (hst := by simp +decide (disch := omega) only [nrm, lk_nrm, dc_nrm, mk_nrm, mf_nrm, ti_nrm, ls_nrm, mp_nrm, nb_nrm, hset, pick_and, pick_or, ↓reduceIte, Nat.reduceAdd, wI64, wI32, wI16, wI8, wU8, List.length_map, Int.toNat_natCast, List.length_replicate]; rfl)
    refine awp_ret ?_
    refine fin_mk [0] rfl rfl ?_ (objs_cons rfl rfl rfl rfl rfl (.inl rfl) objs_nil) (by decide)
    rfl

noncomputable abbrev s_L_toRack : Spec (Int × List Pl) where
  args := fun x => [rackD x]
  pre := fun x => x.2.length ≤ 1048576
  new := fun x => [⟨47, 9, false, pls x.2⟩]
  res := fun x => .agg [.val (.int .i16 x.1), .own 0]

set_option maxRecDepth 20000 in
set_option maxHeartbeats 1000000 in
theorem ok_L_toRack : FnOk Pr 7 s_L_toRack := by
  refine fn_ok 1 0 T0_ok Go.Proofs.Try.func7 rfl (enters_of Go.Proofs.Try.func7 rfl rfl) (fun _ => rfl) (fun _ => rfl) (fun _ => rfl) ?_
  rintro ⟨p, xs⟩ hl C hP hN hm hG
  change awp C _ _ ⟨[(0, .agg [.val (.int .i16 p), .sl 9 (pls xs)])], [], 0⟩
  have hl : xs.length ≤ 1048576 := hl
  refine awp_seq ?_
  refine r1 T0_ok hP hm hN ?_
  refine g1 ?_
  refine g1 ?_
  refine awp_seq ?_
  refine r1 T0_ok hP hm hN ?_
  refine g1 ?_
  refine awp_seq ?_
  refine r1 T0_ok hP hm hN ?_
  refine g1 ?_
  refine g1 ?_
  refine g1 ?_
  refine g1 ?_
  refine awp_seq ?_
  refine r1 T0_ok hP hm hN ?_
  refine g1 ?_
  refine g1 ?_
  refine gc1 ?_ (call1 ok_L_toPlacedS _ [] (hpre := by (try dsimp only); exact hl))
  refine g1 ?_
  refine g1 ?_
  refine awp_seq ?_
  refine r1 T0_ok hP hm hN ?_
  refine g1 ?_
  refine g1 ?_
  refine awp_ret ?_
  refine fin_mk [3] rfl rfl ?_ (objs_cons rfl rfl rfl rfl rfl (.inl rfl) objs_nil) (by decide)
  rfl

noncomputable abbrev s_L_szPlacedS : Spec (List Pl × Int) where
  args := fun x => [.sl 9 (pls x.1), .val (.int .i64 x.2)]
  pre := fun x => x.1.length ≤ 9223372036854775807 ∧ 0 ≤ x.2 ∧ x.2 ≤ 1048576
  res := fun x => .val (.int .i64 (if (x.1.length : Int) ≤ x.2 then x.2 - x.1.length else -1))

set_option maxRecDepth 20000 in
set_option maxHeartbeats 1000000 in
theorem ok_L_szPlacedS : FnOk Pr 14 s_L_szPlacedS := by
  refine fn_ok 2 0 T0_ok Go.Proofs.Try.func14 rfl (enters_of Go.Proofs.Try.func14 rfl rfl) (fun _ => rfl) (fun _ => rfl) (fun _ => rfl) ?_
  rintro ⟨xs, k⟩ ⟨hp, hk⟩ C hP hN hm hG
  change awp C _ _ ⟨[(0, .sl 9 (pls xs)), (1, .val (.int .i64 k))], [], 0⟩
  simp only at hp hk
  refine awp_seq ?_
  refine r1 T0_ok hP hm hN ?_
  refine g1 ?_
  refine awp_seq ?_
  refine r1 T0_ok hP hm hN ?_
  refine g1 ?_
  refine g1 ?_
  refine g1 ?_
  refine g1 ?_
  refine g1 ?_
  refine awp_seq ?_
  refine awp_seq ?_
  refine r1 T0_ok hP hm hN ?_
  refine g1 ?_
  refine g1 ?_
  refine awp_cond rfl (fun hc0 => ?_) (fun hc0 => ?_)
  · skip
    refine awp_seq ?_
    refine r1 T0_ok hP hm hN ?_
    refine g1 ?_
    refine awp_ret ?_
    refine fin_mk [] rfl rfl ?_ trivial (by decide)
    simp only [decide_eq_true_eq] at hc0
    show D.val (.int .i64 (if (xs.length : Int) ≤ k then k - xs.length else -1)) = _
    rw [if_neg (by omega)]
    rfl
  · skip
    refine awp_skip ?_
    refine awp_seq ?_
    refine r1 T0_ok hP hm hN ?_
    refine g1 ?_
    refine g1 ?_
    refine awp_ret ?_
    refine fin_mk [] rfl rfl ?_ trivial (by decide)
    simp only [decide_eq_false_iff_not] at hc0
    show D.val (.int .i64 (if (xs.length : Int) ≤ k then k - xs.length else -1)) = _
    rw [if_pos (by omega)]
    rfl

noncomputable abbrev s_L_szRack : Spec ((Int × List Pl) × Int) where
  args := fun x => [rackD x.1, .val (.int .i64 x.2)]
  pre := fun x => x.1.2.length ≤ 9223372036854775807 ∧ 0 ≤ x.2 ∧ x.2 ≤ 1048576
  res := fun x => .val (.int .i64 (if (x.1.2.length : Int) ≤ x.2 then x.2 - x.1.2.length else -1))

set_option maxRecDepth 20000 in
set_option maxHeartbeats 1000000 in
theorem ok_L_szRack : FnOk Pr 5 s_L_szRack := by
  refine fn_ok 2 0 T0_ok Go.Proofs.Try.func5 rfl (enters_of Go.Proofs.Try.func5 rfl rfl) (fun _ => rfl) (fun _ => rfl) (fun _ => rfl) ?_
  rintro ⟨⟨p, xs⟩, k⟩ ⟨hl, hk⟩ C hP hN hm hG
  change awp C _ _ ⟨[(0, .agg [.val (.int .i16 p), .sl 9 (pls xs)]), (1, .val (.int .i64 k))], [], 0⟩
  simp only at hl hk
  refine awp_seq ?_
  refine r1 T0_ok hP hm hN ?_
  refine g1 ?_
  refine g1 ?_
  refine awp_seq ?_
  refine r1 T0_ok hP hm hN ?_
  refine g1 ?_
  refine g1 ?_
  refine g1 ?_
  refine gc1 ?_ (call1 ok_L_szPlacedS (_, _) [] (hpre := by (try dsimp only); exact ⟨hl, hk⟩))
  refine g1 ?_
  refine awp_seq ?_
  refine awp_seq ?_
  refine r1 T0_ok hP hm hN ?_
  refine g1 ?_
  refine g1 ?_
  refine awp_cond rfl (fun hc0 => ?_) (fun hc0 => ?_)
  · skip
    refine awp_seq ?_
    refine r1 T0_ok hP hm hN ?_
    refine g1 ?_
    refine awp_ret ?_
    refine fin_mk [] rfl rfl ?_ trivial (by decide)
    simp only [decide_eq_true_eq] at hc0
    show D.val (.int .i64 (if (xs.length : Int) ≤ k then k - xs.length else -1)) = _
    rw [if_neg (by intro h; rw [if_pos h] at hc0; omega)]
    rfl
  · skip
    refine awp_skip ?_
    refine awp_seq ?_
    refine r1 T0_ok hP hm hN ?_
    refine g1 ?_
    refine g1 ?_
    refine awp_ret ?_
    refine fin_mk [] rfl rfl ?_ trivial (by decide)
    rfl

noncomputable abbrev s_L_eqPlaced : Spec (Pl × Pl) where
  args := fun x => [plD x.1, plD x.2]
  res := fun x => .val (.bool (ask (x.1 = x.2)))

set_option maxRecDepth 20000 in
set_option maxHeartbeats 1000000 in
theorem ok_L_eqPlaced : FnOk Pr 37 s_L_eqPlaced := by
  refine fn_ok 2 0 T0_ok Go.Proofs.Try.func37 rfl (enters_of Go.Proofs.Try.func37 rfl rfl) (fun _ => rfl) (fun _ => rfl) (fun _ => rfl) ?_
  rintro ⟨x, y⟩ - C hP hN hm hG
  change awp C _ _ ⟨[(0, .val (.agg #[.int .i16 x.1, .int .i16 x.2.cls, .int .u8 x.2.m0, .int .u8 x.2.m1, .int .u8 x.2.m2, .int .i16 x.2.vol, .int .i16 x.2.wide, .int .i16 x.2.high, .int .i16 x.2.weight])), (1, .val (.agg #[.int .i16 y.1, .int .i16 y.2.cls, .int .u8 y.2.m0, .int .u8 y.2.m1, .int .u8 y.2.m2, .int .i16 y.2.vol, .int .i16 y.2.wide, .int .i16 y.2.high, .int .i16 y.2.weight]))], [], 0⟩
  refine awp_seq ?_
  refine r1 T0_ok hP hm hN ?_
  refine g1 ?_
  refine g1 ?_
  refine g1 ?_
  refine awp_seq ?_
  refine awp_seq ?_
  refine r1 T0_ok hP hm hN ?_
  refine g1 ?_
  refine g1 ?_
  refine g1 ?_
  refine g1 ?_
  refine g1 ?_
  refine awp_cond rfl (fun hc0 => ?_) (fun hc0 => ?_)
  · skip
    refine awp_seq ?_
    refine r1 T0_ok hP hm hN ?_
    refine g1 ?_
    refine awp_ret ?_
    refine fin_mk [] rfl rfl ?_ trivial (by decide)
    show D.val (.bool (ask (x = y))) = D.val (.bool false)
    rw [ask_false (fun h => by subst h; simp [ask] at hc0)]
  · skip
    refine awp_skip ?_
    refine awp_seq ?_
    refine awp_seq ?_
    refine r1 T0_ok hP hm hN ?_
    refine g1 ?_
    refine g1 ?_
    refine g1 ?_
    refine g1 ?_
    refine gc1 ?_ (call1 ok_L_eqBook (_, _) [])
    refine g1 ?_
    refine awp_cond rfl (fun hc1 => ?_) (fun hc1 => ?_)
    · skip
      refine awp_seq ?_
      refine r1 T0_ok hP hm hN ?_
      refine g1 ?_
      refine awp_ret ?_
      refine fin_mk [] rfl rfl ?_ trivial (by decide)
      show D.val (.bool (ask (x = y))) = D.val (.bool false)
      rw [ask_false (fun h => by subst h; simp [ask] at hc1)]
    · skip
      refine awp_skip ?_
      refine awp_seq ?_
      refine r1 T0_ok hP hm hN ?_
      refine g1 ?_
      refine awp_ret ?_
      refine fin_mk [] rfl rfl ?_ trivial (by decide)
      show D.val (.bool (ask (x = y))) = D.val (.bool true)
      simp only [Bool.not_eq_false', ask_iff, bne_eq_false_iff_eq] at hc0 hc1
      rw [ask_true (Prod.ext hc0 hc1)]

noncomputable abbrev s_L_eqPlacedS : Spec (List Pl × List Pl) where
  args := fun x => [.sl 9 (pls x.1), .sl 9 (pls x.2)]
  pre := fun x => x.1.length ≤ 9223372036854775807 ∧ x.2.length ≤ 9223372036854775807
  res := fun x => .val (.bool (ask (x.1 = x.2)))

set_option maxRecDepth 20000 in
set_option maxHeartbeats 1000000 in
theorem ok_L_eqPlacedS : FnOk Pr 20 s_L_eqPlacedS := by
  refine fn_ok 2 0 T0_ok Go.Proofs.Try.func20 rfl (enters_of Go.Proofs.Try.func20 rfl rfl) (fun _ => rfl) (fun _ => rfl) (fun _ => rfl) ?_
  rintro ⟨xs, ys⟩ ⟨hp, hp2⟩ C hP hN hm hG
  change awp C _ _ ⟨[(0, .sl 9 (pls xs)), (1, .sl 9 (pls ys))], [], 0⟩
  simp only at hp hp2
  refine awp_seq ?_
  refine r1 T0_ok hP hm hN ?_
  refine g1 ?_
  refine awp_seq ?_
  refine awp_seq ?_
  refine r1 T0_ok hP hm hN ?_
  refine g1 ?_
  refine g1 ?_
  refine g1 ?_
  refine g1 ?_
  refine g1 ?_
  refine awp_cond rfl (fun hc0 => ?_) (fun hc0 => ?_)
  · skip
    refine awp_seq ?_
    refine r1 T0_ok hP hm hN ?_
    refine g1 ?_
    refine awp_ret ?_
    refine fin_mk [] rfl rfl ?_ trivial (by decide)
    show D.val (.bool (ask (xs = ys))) = D.val (.bool false)
    rw [ask_false (fun h => by subst h; simp at hc0)]
  · skip
    have hl : xs.length = ys.length := by simp at hc0; omega
    refine awp_skip ?_
    refine awp_seq ?_
    refine awp_seq ?_
    refine r1 T0_ok hP hm hN ?_
    refine g1 ?_
    refine awp_block ?_
    refine awp_loop (fun n st => ∃ i : Nat, i ≤ xs.length ∧ (∀ j, j < i → xs.getD j pl0 = ys.getD j pl0) ∧ n = xs.length - i ∧ st = ⟨[(5, .val (.int .i64 (i : Nat))), (0, .sl 9 (pls xs)), (1, .sl 9 (pls ys))], [], 0⟩) (xs.length) ⟨_, weak_sl (sub_cons rfl (sub_cons rfl (sub_cons rfl (sub_nil)))), 0, by omega, fun j h => by omega, rfl, rfl⟩ ?_
    rintro n st ⟨i, hii, hall, hni, rfl⟩
    refine awp_seq ?_
    refine awp_seq ?_
    refine r1 T0_ok hP hm hN ?_
    refine g1 ?_
    refine g1 ?_
    refine g1 ?_
    refine g1 ?_
    refine awp_cond rfl (fun hc1 => ?_) (fun hc1 => ?_)
    · skip
      have hlti : i < xs.length := by simpa using hc1
      refine awp_skip ?_
      refine awp_seq ?_
      refine awp_block ?_
      refine awp_seq ?_
      refine awp_draw T0_ok hP hm hN Pr_mix [0, 1, 2, 3, 4, 5, 6, 7, 8, 9, 10, 11] [8] _ rfl (by rfl) ?_
      refine d1 T0_ok ?_
      refine d1 T0_ok ?_
      refine d1 T0_ok ?_
      refine d1 T0_ok ?_
      refine d1 T0_ok ?_
      refine d1 T0_ok ?_
      refine d1 T0_ok ?_
      refine d1 T0_ok ?_
      refine dp1 ?_ (call1 ok_L_eqPlaced (_, _) [])
      refine d1 T0_ok ?_
      refine dreg_nil ?_
      refine awp_cond rfl (fun hc2 => ?_) (fun hc2 => ?_)
      · skip
        refine awp_seq ?_
        refine r1 T0_ok hP hm hN ?_
        refine g1 ?_
        refine awp_ret ?_
        refine fin_mk [] rfl rfl ?_ trivial (by decide)
        show D.val (.bool (ask (xs = ys))) = D.val (.bool false)
        rw [ask_false (fun h => by subst h; simp [ask] at hc2)]
      · skip
        refine awp_skip ?_
        refine r1 T0_ok hP hm hN ?_
        refine g1 ?_
        refine g1 ?_
        refine g1 ?_
        refine ⟨xs.length - (i + 1), _, by omega, weak_sl (sub_cons rfl (sub_cons rfl (sub_cons rfl (sub_nil)))), i + 1, by omega, upto_step hall (ask_iff.1 (by simpa using hc2)), rfl, rfl⟩
    · skip
      have hgei : ¬ i < xs.length := by simpa using hc1
      have heqi : i = xs.length := by omega
      refine awp_exit ?_
      repeat refine thenA_exit ?_
      refine blockA_hit ?_
      refine awp_seq ?_
      refine r1 T0_ok hP hm hN ?_
      refine g1 ?_
      refine awp_ret ?_
      refine fin_mk [] rfl rfl ?_ trivial (by decide)
      show D.val (.bool (ask (xs = ys))) = D.val (.bool true)
      rw [ask_true (list_ext' (d := pl0) hl (fun j hj => hall j (by omega)))]

noncomputable abbrev s_L_eqRack : Spec ((Int × List Pl) × (Int × List Pl)) where
  args := fun x => [rackD x.1, rackD x.2]
  pre := fun x => x.1.2.length ≤ 9223372036854775807 ∧ x.2.2.length ≤ 9223372036854775807
  res := fun x => .val (.bool (ask (x.1 = x.2)))

set_option maxRecDepth 20000 in
set_option maxHeartbeats 1000000 in
theorem ok_L_eqRack : FnOk Pr 9 s_L_eqRack := by
  refine fn_ok 2 0 T0_ok Go.Proofs.Try.func9 rfl (enters_of Go.Proofs.Try.func9 rfl rfl) (fun _ => rfl) (fun _ => rfl) (fun _ => rfl) ?_
  rintro ⟨⟨p, xs⟩, q, ys⟩ ⟨h1, h2⟩ C hP hN hm hG
  change awp C _ _ ⟨[(0, .agg [.val (.int .i16 p), .sl 9 (pls xs)]), (1, .agg [.val (.int .i16 q), .sl 9 (pls ys)])], [], 0⟩
  simp only at h1 h2
  refine awp_seq ?_
  refine r1 T0_ok hP hm hN ?_
  refine g1 ?_
  refine g1 ?_
  refine g1 ?_
  refine awp_seq ?_
  refine awp_seq ?_
  refine r1 T0_ok hP hm hN ?_
  refine g1 ?_
  refine g1 ?_
  refine g1 ?_
  refine g1 ?_
  refine g1 ?_
  refine awp_cond rfl (fun hc0 => ?_) (fun hc0 => ?_)
  · skip
    refine awp_seq ?_
    refine r1 T0_ok hP hm hN ?_
    refine g1 ?_
    refine awp_ret ?_
    refine fin_mk [] rfl rfl ?_ trivial (by decide)
    show D.val (.bool (ask ((p, xs) = (q, ys)))) = D.val (.bool false)
    rw [ask_false (fun h => by simp only [Prod.mk.injEq] at h; rw [h.1] at hc0; simp at hc0)]
  · skip
    refine awp_skip ?_
    refine awp_seq ?_
    refine awp_seq ?_
    refine r1 T0_ok hP hm hN ?_
    refine g1 ?_
    refine g1 ?_
    refine g1 ?_
    refine g1 ?_
    refine gc1 ?_ (call1 ok_L_eqPlacedS (_, _) [] (hpre := by (try dsimp only); exact ⟨h1, h2⟩))
    refine g1 ?_
    refine awp_cond rfl (fun hc1 => ?_) (fun hc1 => ?_)
    · skip
      refine awp_seq ?_
      refine r1 T0_ok hP hm hN ?_
      refine g1 ?_
      refine awp_ret ?_
      refine fin_mk [] rfl rfl ?_ trivial (by decide)
      show D.val (.bool (ask ((p, xs) = (q, ys)))) = D.val (.bool false)
      rw [ask_false (fun h => by simp only [Prod.mk.injEq] at h; rw [h.2] at hc1; simp [ask] at hc1)]
    · skip
      refine awp_skip ?_
      refine awp_seq ?_
      refine r1 T0_ok hP hm hN ?_
      refine g1 ?_
      refine awp_ret ?_
      refine fin_mk [] rfl rfl ?_ trivial (by decide)
      show D.val (.bool (ask ((p, xs) = (q, ys)))) = D.val (.bool true)
      simp only [Bool.not_eq_false', ask_iff, bne_eq_false_iff_eq] at hc0 hc1
      rw [ask_true (by rw [hc0, hc1])]
end Go.Proofs.Ytamdnmkdhpleiaa.Abs
