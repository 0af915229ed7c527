import Derived.Test.YtafobbekeoghiaaQ1
set_option linter.unusedVariables false
set_option linter.unusedSimpArgs false
namespace Go.Proofs.Ytafobbekeoghiaa.Abs
open Go Go.RowKit
theorem addR_low (p : Int) (xs : List Pl) (b : Bk) (h0 : ((roomR p xs ((placeN (beforeB b (xs.map Prod.snd)) xs.length) : Nat)).2 == 0) = true) (h1 : (decide ((lowG xs.length p (atX xs) (placeN (beforeB b (xs.map Prod.snd)) xs.length)) < 0) && decide ((highG xs.length p (atX xs) (placeN (beforeB b (xs.map Prod.snd)) xs.length)) < 0)) = false) (h2 : (decide ((lowG xs.length p (atX xs) (placeN (beforeB b (xs.map Prod.snd)) xs.length)) ≥ 0) && (decide ((highG xs.length p (atX xs) (placeN (beforeB b (xs.map Prod.snd)) xs.length)) < 0) || decide ((lowG xs.length p (atX xs) (placeN (beforeB b (xs.map Prod.snd)) xs.length)) ≤ (highG xs.length p (atX xs) (placeN (beforeB b (xs.map Prod.snd)) xs.length))))) = true) :
    addR p xs b = ((p, insL (shF (fun x => x - 1) (((placeN (beforeB b (xs.map Prod.snd)) xs.length) : Nat) - (lowG xs.length p (atX xs) (placeN (beforeB b (xs.map Prod.snd)) xs.length))) xs (lowG xs.length p (atX xs) (placeN (beforeB b (xs.map Prod.snd)) xs.length)).toNat) (placeN (beforeB b (xs.map Prod.snd)) xs.length) (IntKind.i16.wrap ((roomR p xs ((placeN (beforeB b (xs.map Prod.snd)) xs.length) : Nat)).1 - 1), b)), (lowG xs.length p (atX xs) (placeN (beforeB b (xs.map Prod.snd)) xs.length)), true) := by
  rw [addR, if_pos h0, if_neg (by rw [h1]; simp), if_pos h2]
theorem addR_high (p : Int) (xs : List Pl) (b : Bk) (h0 : ((roomR p xs ((placeN (beforeB b (xs.map Prod.snd)) xs.length) : Nat)).2 == 0) = true) (h1 : (decide ((lowG xs.length p (atX xs) (placeN (beforeB b (xs.map Prod.snd)) xs.length)) < 0) && decide ((highG xs.length p (atX xs) (placeN (beforeB b (xs.map Prod.snd)) xs.length)) < 0)) = false) (h2 : (decide ((lowG xs.length p (atX xs) (placeN (beforeB b (xs.map Prod.snd)) xs.length)) ≥ 0) && (decide ((highG xs.length p (atX xs) (placeN (beforeB b (xs.map Prod.snd)) xs.length)) < 0) || decide ((lowG xs.length p (atX xs) (placeN (beforeB b (xs.map Prod.snd)) xs.length)) ≤ (highG xs.length p (atX xs) (placeN (beforeB b (xs.map Prod.snd)) xs.length))))) = false) :
    addR p xs b = ((p, insL (shF (fun x => x + 1) ((placeN (beforeB b (xs.map Prod.snd)) xs.length) : Nat) xs (highG xs.length p (atX xs) (placeN (beforeB b (xs.map Prod.snd)) xs.length)).toNat) (placeN (beforeB b (xs.map Prod.snd)) xs.length) (IntKind.i16.wrap (roomR p xs ((placeN (beforeB b (xs.map Prod.snd)) xs.length) : Nat)).1, b)), (highG xs.length p (atX xs) (placeN (beforeB b (xs.map Prod.snd)) xs.length)), true) := by
  rw [addR, if_pos h0, if_neg (by rw [h1]; simp), if_neg (by rw [h2]; simp)]

noncomputable abbrev s_S_l05Added : Spec ((Int × List Pl) × Bk) where
  args := fun x => [.rptr 2 [[.val (.int .i16 x.1.1), .sl 9 (pls x.1.2)]] 0 0, .rptr 8 [bkRow x.2] 0 0]
  pre := fun x => x.1.2.length ≤ 1048576 ∧ (isI16 x.1.1 ∧ ∀ b ∈ x.1.2, isPl b) ∧ isBk x.2
  new := fun x => [⟨58, 9, false, pls (addR x.1.1 x.1.2 x.2).1.2⟩]
  res := fun x => .tup [.agg [.val (.int .i16 (addR x.1.1 x.1.2 x.2).1.1), .own 0], .val (.int .i64 (addR x.1.1 x.1.2 x.2).2.1), .val (.bool (addR x.1.1 x.1.2 x.2).2.2)]

set_option maxRecDepth 20000 in
set_option maxHeartbeats 16000000 in
theorem ok_S_l05Added : FnOk Pr 21 s_S_l05Added := by
  refine fn_ok 2 0 T0_ok Go.Proofs.Try.func21 rfl (enters_of Go.Proofs.Try.func21 rfl rfl) (fun _ => rfl) (fun _ => rfl) (fun _ => rfl) ?_
  rintro ⟨⟨p, xs⟩, b⟩ ⟨hl, ⟨hpp, hv⟩, hbk⟩ C hP hN hm hG
  change awp C _ _ ⟨[(0, .rptr 2 [[.val (.int .i16 p), .sl 9 (pls xs)]] 0 0), (1, .rptr 8 [bkRow b] 0 0)], [], 0⟩
  simp only at hl hpp hv hbk
  have hkn : (placeN (beforeB b (xs.map Prod.snd)) xs.length) ≤ xs.length := placeN_le _ _
  have hrb := roomR_b hpp hv (k := ((placeN (beforeB b (xs.map Prod.snd)) xs.length) : Nat)) (by omega) (by omega)
  have htd := tdiv2_b (x := (roomR p xs (((placeN (beforeB b (xs.map Prod.snd)) xs.length) : Nat) : Int)).2 - 1) (by omega)
  have hlo := lowG_b xs.length p (atX xs) (placeN (beforeB b (xs.map Prod.snd)) xs.length)
  have hhi := highG_b xs.length p (atX xs) hkn
  refine awp_seq ?_
  refine r1 T0_ok hP hm hN ?_
  refine g1 ?_
  refine g1 ?_
  refine g1 ?_
  refine awp_seq ?_
  refine r1 T0_ok hP hm hN ?_
  refine g1 ?_
  refine g1 ?_
  refine gc1 ?_ (call1 ok_S_l05Index ((_, _), _, _, _, b) [] (hpre := by (try dsimp only); exact ⟨⟨hv, hl⟩, rfl, hbk⟩))
  refine g1 ?_
  refine awp_seq ?_
  refine r1 T0_ok hP hm hN ?_
  refine g1 ?_
  refine g1 ?_
  refine gc1 ?_ (call1 ok_S_l05Room ((_, _), _) [] (hpre := by (try dsimp only); exact ⟨hl, ⟨hpp, hv⟩, by omega, by omega⟩))
  refine g1 ?_
  refine g1 ?_
  refine g1 ?_
  refine g1 ?_
  refine g1 ?_
  refine awp_seq ?_
  refine r1 T0_ok hP hm hN ?_
  refine g1 ?_ (hst := by simp +decide (disch := omega) only [nrm, lk_nrm, dc_nrm, mk_nrm, mf_nrm, ti_nrm, ls_nrm, mp_nrm, nb_nrm, hset, pick_and, pick_or, ↓reduceIte, Nat.reduceAdd, wI64, wI32, wI16, wI8, wU8, List.length_map, Int.toNat_natCast, kl_nrm, List.all_nil, Bool.not_true]; rfl)
  refine g1 ?_
  refine g1 ?_
  refine g1 ?_
  refine g1 ?_
  refine ga1 ?_ (hst := by simp +decide (disch := omega) only [nrm, lk_nrm, dc_nrm, mk_nrm, mf_nrm, ti_nrm, ls_nrm, mp_nrm, nb_nrm, hset, pick_and, pick_or, ↓reduceIte, Nat.reduceAdd, wI64, wI32, wI16, wI8, wU8, List.length_map, Int.toNat_natCast, kl_nrm, List.all_nil, Bool.not_true]; rfl)
  refine g1 ?_
  refine awp_seq ?_
  refine r1 T0_ok hP hm hN ?_
  refine g1 ?_
  refine awp_seq ?_
  refine r1 T0_ok hP hm hN ?_
  refine g1 ?_
  refine g1 ?_
  refine g1 ?_
  refine g1 ?_
  refine g1 ?_
  refine g1 ?_
  refine awp_seq ?_
  refine awp_seq ?_
  refine r1 T0_ok hP hm hN ?_
  refine g1 ?_
  refine g1 ?_
  refine awp_cond rfl (fun hc0 => ?_) (fun hc0 => ?_)
  · skip
    refine awp_seq ?_
    refine r1 T0_ok hP hm hN ?_
    refine g1 ?_
    refine g1 ?_
    refine gc1 ?_ (call1 ok_S_l05Sides ((_, _), (placeN (beforeB b (xs.map Prod.snd)) xs.length)) [] (hpre := by (try dsimp only); exact ⟨hl, ⟨hpp, hv⟩, hkn⟩))
    refine g1 ?_
    refine g1 ?_
    refine g1 ?_
    refine g1 ?_
    refine g1 ?_
    refine awp_seq ?_
    refine awp_seq ?_
    refine r1 T0_ok hP hm hN ?_
    refine g1 ?_
    refine g1 ?_
    refine g1 ?_
    refine gg1 ?_
    refine gg1 ?_
    refine g1 ?_
    refine awp_cond rfl (fun hc1 => ?_) (fun hc1 => ?_)
    · skip
      have hr : addR p xs b = ((0, []), 0, false) := by rw [addR, if_pos hc0, if_pos hc1]
      refine awp_seq ?_
      refine r1 T0_ok hP hm hN ?_
      refine g1 ?_
      refine g1 ?_
      refine g1 ?_
      refine g1 ?_
      refine awp_weak (weak_nilO 0 0 1 58 9 rfl rfl rfl rfl) ?_
      refine awp_ret ?_
      refine fin_mk [2] rfl rfl ?_ (by simp only [hr, insL_rows]; exact objs_cons rfl rfl rfl (by simp [Ob.kill, Ob.app, List.map_take, List.map_drop, List.take_of_length_le, shF_len] <;> rfl) rfl (.inl rfl) objs_nil) (by decide)
      show D.tup [.agg [.val (.int .i16 (addR p xs b).1.1), .own 2], .val (.int .i64 (addR p xs b).2.1), .val (.bool (addR p xs b).2.2)] = _
      rw [hr]
      rfl
    · skip
      refine awp_skip ?_
      refine awp_seq ?_
      refine r1 T0_ok hP hm hN ?_
      refine g1 ?_
      refine g1 ?_
      refine g1 ?_
      cases hs0 : decide ((lowG xs.length p (atX xs) (placeN (beforeB b (xs.map Prod.snd)) xs.length)) ≥ 0)
      · skip
        first | refine areg_not rfl rfl (by simp +decide (disch := omega) only [nrm, lk_nrm, dc_nrm, mk_nrm, mf_nrm, ti_nrm, ls_nrm, mp_nrm, nb_nrm, hset, pick_and, pick_or, ↓reduceIte, Nat.reduceAdd, wI64, wI32, wI16, wI8, wU8, List.length_map, Int.toNat_natCast]; rfl) ?_ | refine areg_notU rfl rfl (by simp +decide (disch := omega) only [nrm, lk_nrm, dc_nrm, mk_nrm, mf_nrm, ti_nrm, ls_nrm, mp_nrm, nb_nrm, hset, pick_and, pick_or, ↓reduceIte, Nat.reduceAdd, wI64, wI32, wI16, wI8, wU8, List.length_map, Int.toNat_natCast]; rfl) ?_
        first | refine areg_not rfl rfl (by simp +decide (disch := omega) only [nrm, lk_nrm, dc_nrm, mk_nrm, mf_nrm, ti_nrm, ls_nrm, mp_nrm, nb_nrm, hset, pick_and, pick_or, ↓reduceIte, Nat.reduceAdd, wI64, wI32, wI16, wI8, wU8, List.length_map, Int.toNat_natCast]; rfl) ?_ | refine areg_notU rfl rfl (by simp +decide (disch := omega) only [nrm, lk_nrm, dc_nrm, mk_nrm, mf_nrm, ti_nrm, ls_nrm, mp_nrm, nb_nrm, hset, pick_and, pick_or, ↓reduceIte, Nat.reduceAdd, wI64, wI32, wI16, wI8, wU8, List.length_map, Int.toNat_natCast]; rfl) ?_
        first | refine areg_not rfl rfl (by simp +decide (disch := omega) only [nrm, lk_nrm, dc_nrm, mk_nrm, mf_nrm, ti_nrm, ls_nrm, mp_nrm, nb_nrm, hset, pick_and, pick_or, ↓reduceIte, Nat.reduceAdd, wI64, wI32, wI16, wI8, wU8, List.length_map, Int.toNat_natCast]; rfl) ?_ | refine areg_notU rfl rfl (by simp +decide (disch := omega) only [nrm, lk_nrm, dc_nrm, mk_nrm, mf_nrm, ti_nrm, ls_nrm, mp_nrm, nb_nrm, hset, pick_and, pick_or, ↓reduceIte, Nat.reduceAdd, wI64, wI32, wI16, wI8, wU8, List.length_map, Int.toNat_natCast]; rfl) ?_
        first | refine areg_not rfl rfl (by simp +decide (disch := omega) only [nrm, lk_nrm, dc_nrm, mk_nrm, mf_nrm, ti_nrm, ls_nrm, mp_nrm, nb_nrm, hset, pick_and, pick_or, ↓reduceIte, Nat.reduceAdd, wI64, wI32, wI16, wI8, wU8, List.length_map, Int.toNat_natCast]; rfl) ?_ | refine areg_notU rfl rfl (by simp +decide (disch := omega) only [nrm, lk_nrm, dc_nrm, mk_nrm, mf_nrm, ti_nrm, ls_nrm, mp_nrm, nb_nrm, hset, pick_and, pick_or, ↓reduceIte, Nat.reduceAdd, wI64, wI32, wI16, wI8, wU8, List.length_map, Int.toNat_natCast]; rfl) ?_
        first | refine areg_not rfl rfl (by simp +decide (disch := omega) only [nrm, lk_nrm, dc_nrm, mk_nrm, mf_nrm, ti_nrm, ls_nrm, mp_nrm, nb_nrm, hset, pick_and, pick_or, ↓reduceIte, Nat.reduceAdd, wI64, wI32, wI16, wI8, wU8, List.length_map, Int.toNat_natCast]; rfl) ?_ | refine areg_notU rfl rfl (by simp +decide (disch := omega) only [nrm, lk_nrm, dc_nrm, mk_nrm, mf_nrm, ti_nrm, ls_nrm, mp_nrm, nb_nrm, hset, pick_and, pick_or, ↓reduceIte, Nat.reduceAdd, wI64, wI32, wI16, wI8, wU8, List.length_map, Int.toNat_natCast]; rfl) ?_
        first | refine areg_not rfl rfl (by simp +decide (disch := omega) only [nrm, lk_nrm, dc_nrm, mk_nrm, mf_nrm, ti_nrm, ls_nrm, mp_nrm, nb_nrm, hset, pick_and, pick_or, ↓reduceIte, Nat.reduceAdd, wI64, wI32, wI16, wI8, wU8, List.length_map, Int.toNat_natCast]; rfl) ?_ | refine areg_notU rfl rfl (by simp +decide (disch := omega) only [nrm, lk_nrm, dc_nrm, mk_nrm, mf_nrm, ti_nrm, ls_nrm, mp_nrm, nb_nrm, hset, pick_and, pick_or, ↓reduceIte, Nat.reduceAdd, wI64, wI32, wI16, wI8, wU8, List.length_map, Int.toNat_natCast]; rfl) ?_
        first | refine areg_not rfl rfl (by simp +decide (disch := omega) only [nrm, lk_nrm, dc_nrm, mk_nrm, mf_nrm, ti_nrm, ls_nrm, mp_nrm, nb_nrm, hset, pick_and, pick_or, ↓reduceIte, Nat.reduceAdd, wI64, wI32, wI16, wI8, wU8, List.length_map, Int.toNat_natCast]; rfl) ?_ | refine areg_notU rfl rfl (by simp +decide (disch := omega) only [nrm, lk_nrm, dc_nrm, mk_nrm, mf_nrm, ti_nrm, ls_nrm, mp_nrm, nb_nrm, hset, pick_and, pick_or, ↓reduceIte, Nat.reduceAdd, wI64, wI32, wI16, wI8, wU8, List.length_map, Int.toNat_natCast]; rfl) ?_
        refine g1 ?_
        refine awp_cond rfl (fun h63 => ?_) (fun h63 => ?_)
        · skip
          have h2 : (decide ((lowG xs.length p (atX xs) (placeN (beforeB b (xs.map Prod.snd)) xs.length)) ≥ 0) && (decide ((highG xs.length p (atX xs) (placeN (beforeB b (xs.map Prod.snd)) xs.length)) < 0) || decide ((lowG xs.length p (atX xs) (placeN (beforeB b (xs.map Prod.snd)) xs.length)) ≤ (highG xs.length p (atX xs) (placeN (beforeB b (xs.map Prod.snd)) xs.length))))) = true := by first | (rw [hs0, hs1]; exact h63) | (rw [hs0]; exact h63)
          have h3 := h2
          simp only [Bool.and_eq_true, decide_eq_true_eq] at h3
          have hlo2 : 1 ≤ (lowG xs.length p (atX xs) (placeN (beforeB b (xs.map Prod.snd)) xs.length)) ∧ (lowG xs.length p (atX xs) (placeN (beforeB b (xs.map Prod.snd)) xs.length)) ≤ ((placeN (beforeB b (xs.map Prod.snd)) xs.length) : Nat) := by
            rcases hlo with h | h
            · have := h3.1; omega
            · exact h
          have hr := addR_low p xs b hc0 hc1 h2
          refine awp_seq ?_
          refine r1 T0_ok hP hm hN ?_
          refine g1 ?_
          refine g1 ?_
          refine awp_seq ?_
          refine r1 T0_ok hP hm hN ?_
          refine g1 ?_
          refine g1 ?_
          refine g1 ?_
          refine awp_seq ?_
          refine r1 T0_ok hP hm hN ?_
          refine g1 ?_
          refine g1 ?_
          refine g1 ?_
          refine g1 ?_
          refine awp_block ?_
          refine awp_loop (fun n st => ∃ i : Nat, i ≤ (lowG xs.length p (atX xs) (placeN (beforeB b (xs.map Prod.snd)) xs.length)).toNat ∧ n = (lowG xs.length p (atX xs) (placeN (beforeB b (xs.map Prod.snd)) xs.length)).toNat - i ∧ st = ⟨[(15, .val (.int .i64 ((((placeN (beforeB b (xs.map Prod.snd)) xs.length) : Nat) : Int) - (lowG xs.length p (atX xs) (placeN (beforeB b (xs.map Prod.snd)) xs.length)) + ((i : Nat) : Int)))), (12, .val (.int .i64 ((roomR p xs (((placeN (beforeB b (xs.map Prod.snd)) xs.length) : Nat) : Int)).1 - 1))), (11, .val (.int .i64 (lowG xs.length p (atX xs) (placeN (beforeB b (xs.map Prod.snd)) xs.length)))), (10, .own 1), (7, .val (.int .i64 (((placeN (beforeB b (xs.map Prod.snd)) xs.length) : Nat) : Int))), (4, .ptr 0 0 0), (1, .rptr 8 [bkRow b] 0 0), (0, .rptr 2 [[.val (.int .i16 p), .sl 9 (pls xs)]] 0 0)], [(1, ⟨58, 9, false, pls (shF (fun x => x - 1) ((((placeN (beforeB b (xs.map Prod.snd)) xs.length) : Nat) : Int) - (lowG xs.length p (atX xs) (placeN (beforeB b (xs.map Prod.snd)) xs.length))) xs i)⟩), (0, ⟨34, 2, true, [[.val (.int .i16 0), .nil]]⟩)], 2⟩) ((lowG xs.length p (atX xs) (placeN (beforeB b (xs.map Prod.snd)) xs.length)).toNat) ⟨_, (by rw [show (((placeN (beforeB b (xs.map Prod.snd)) xs.length) : Nat) : Int) - (lowG xs.length p (atX xs) (placeN (beforeB b (xs.map Prod.snd)) xs.length)) + ((0 : Nat) : Int) = (((placeN (beforeB b (xs.map Prod.snd)) xs.length) : Nat) : Int) - (lowG xs.length p (atX xs) (placeN (beforeB b (xs.map Prod.snd)) xs.length)) by omega]; exact weak_sl (sub_cons rfl (sub_cons rfl (sub_cons rfl (sub_cons rfl (sub_cons rfl (sub_cons rfl (sub_cons rfl (sub_cons rfl (sub_nil)))))))))), 0, by omega, rfl, rfl⟩ ?_
          rintro n st ⟨i, hii, hni, rfl⟩
          have hsl := shF_len (fun x => x - 1) ((((placeN (beforeB b (xs.map Prod.snd)) xs.length) : Nat) : Int) - (lowG xs.length p (atX xs) (placeN (beforeB b (xs.map Prod.snd)) xs.length))) xs i
          refine awp_seq ?_
          refine awp_seq ?_
          refine r1 T0_ok hP hm hN ?_
          refine g1 ?_
          refine g1 ?_
          refine g1 ?_
          refine awp_cond rfl (fun h72 => ?_) (fun h72 => ?_)
          · skip
            have hlti : i < (lowG xs.length p (atX xs) (placeN (beforeB b (xs.map Prod.snd)) xs.length)).toNat := by simp only [decide_eq_true_eq] at h72; omega
            refine awp_skip ?_
            refine awp_seq ?_
            refine awp_block ?_
            refine r1 T0_ok hP hm hN ?_
            refine g1 ?_
            refine g1 ?_
            refine g1 ?_
            refine g1 ?_
            refine g1 ?_
            refine g1 ?_
            refine g1 ?_
            refine g1 ?_
            refine g1 ?_
            refine r1 T0_ok hP hm hN ?_
            refine g1 ?_
            refine g1 ?_
            refine g1 ?_
            refine ⟨(lowG xs.length p (atX xs) (placeN (beforeB b (xs.map Prod.snd)) xs.length)).toNat - (i + 1), _, by omega, (by rw [shF, pls_set, show (((placeN (beforeB b (xs.map Prod.snd)) xs.length) : Nat) : Int) - (lowG xs.length p (atX xs) (placeN (beforeB b (xs.map Prod.snd)) xs.length)) + ((i + 1 : Nat) : Int) = (((placeN (beforeB b (xs.map Prod.snd)) xs.length) : Nat) : Int) - (lowG xs.length p (atX xs) (placeN (beforeB b (xs.map Prod.snd)) xs.length)) + (i : Int) + 1 by omega]; exact weak_sl (sub_cons rfl (sub_cons rfl (sub_cons rfl (sub_cons rfl (sub_cons rfl (sub_cons rfl (sub_cons rfl (sub_cons rfl (sub_nil)))))))))), i + 1, by omega, rfl, rfl⟩
          · skip
            have hgei : ¬ i < (lowG xs.length p (atX xs) (placeN (beforeB b (xs.map Prod.snd)) xs.length)).toNat := by simp only [decide_eq_false_iff_not] at h72; omega
            have heqi : i = (lowG xs.length p (atX xs) (placeN (beforeB b (xs.map Prod.snd)) xs.length)).toNat := by omega
            subst heqi
            refine awp_exit ?_
            repeat refine thenA_exit ?_
            refine blockA_hit ?_
            refine awp_seq ?_
            refine r1 T0_ok hP hm hN ?_
            refine g1 ?_ (hst := by simp +decide (disch := omega) only [nrm, lk_nrm, dc_nrm, mk_nrm, mf_nrm, ti_nrm, ls_nrm, mp_nrm, nb_nrm, hset, pick_and, pick_or, ↓reduceIte, Nat.reduceAdd, wI64, wI32, wI16, wI8, wU8, List.length_map, Int.toNat_natCast, kl_nrm, List.all_nil, Bool.not_true]; rfl)
            refine g1 ?_
            refine g1 ?_
            refine g1 ?_
            refine ga1 ?_ (hpre := by refine ⟨by first | trivial | rfl | omega | (simp only [shF_len, List.length_map]; omega) | (exact ⟨by omega, by omega⟩), rfl, rfl, Nat.le_of_ble_eq_true rfl, fun h => (nomatch h), ?_, ?_⟩ <;> (simp only [Ob.kill, Ob.app, Bool.false_eq_true, if_false, List.length_append, List.length_take, List.length_drop, List.length_map, List.length_cons, List.length_nil, shF_len, List.nil_append, List.all_nil, Bool.not_true, List.map_nil]; omega)) (hst := by simp +decide (disch := omega) only [nrm, lk_nrm, dc_nrm, mk_nrm, mf_nrm, ti_nrm, ls_nrm, mp_nrm, nb_nrm, hset, pick_and, pick_or, ↓reduceIte, Nat.reduceAdd, wI64, wI32, wI16, wI8, wU8, List.length_map, Int.toNat_natCast, kl_nrm, List.all_nil, Bool.not_true]; rfl)
            refine g1 ?_
            refine awp_seq ?_
            refine r1 T0_ok hP hm hN ?_
            refine g1 ?_
            refine g1 ?_
            refine g1 ?_
            refine g1 ?_
            refine g1 ?_
            refine g1 ?_
            refine g1 ?_
            refine g1 ?_
            refine ga1 ?_ (hpre := by refine ⟨by first | trivial | rfl | omega | (simp only [shF_len, List.length_map]; omega) | (exact ⟨by omega, by omega⟩), rfl, rfl, Nat.le_of_ble_eq_true rfl, fun h => (nomatch h), ?_, ?_⟩ <;> (simp only [Ob.kill, Ob.app, Bool.false_eq_true, if_false, List.length_append, List.length_take, List.length_drop, List.length_map, List.length_cons, List.length_nil, shF_len, List.nil_append, List.all_nil, Bool.not_true, List.map_nil]; omega)) (hst := by simp +decide (disch := omega) only [nrm, lk_nrm, dc_nrm, mk_nrm, mf_nrm, ti_nrm, ls_nrm, mp_nrm, nb_nrm, hset, pick_and, pick_or, ↓reduceIte, Nat.reduceAdd, wI64, wI32, wI16, wI8, wU8, List.length_map, Int.toNat_natCast, kl_nrm, List.all_nil, Bool.not_true]; rfl)
            refine g1 ?_
            refine awp_seq ?_
            refine awp_any hP Pr_mix _ rfl 14 rfl ?_
            refine anyS_float T0_ok hP hm hN (by rfl) 0 rfl rfl rfl (by rfl) (by rfl) (by rfl) ?_
            refine g1 ?_
            refine anyS_float T0_ok hP hm hN (by rfl) 4 rfl rfl rfl (by rfl) (by rfl) (by rfl) ?_
            refine g1 ?_
            refine anyS_float T0_ok hP hm hN (by rfl) 5 rfl rfl rfl (by rfl) (by rfl) (by rfl) ?_
            refine g1 ?_
            refine anyS_float T0_ok hP hm hN (by rfl) 6 rfl rfl rfl (by rfl) (by rfl) (by rfl) ?_
            refine g1 ?_
            refine anyS_float T0_ok hP hm hN (by rfl) 10 rfl rfl rfl (by rfl) (by rfl) (by rfl) ?_
            refine g1 ?_
            refine anyS_cons T0_ok hP hm hN (by rfl) [1, 7] (by rfl) rfl ?_
            refine ⟨⟨_, rfl, rfl, ?_⟩, ?_⟩
            · skip
              refine g1 ?_
              refine anyS_cons T0_ok hP hm hN (by rfl) [2, 7] (by rfl) rfl ?_
              refine ⟨⟨_, rfl, rfl, ?_⟩, ?_⟩
              · skip
                refine g1 ?_
                refine anyS_cons T0_ok hP hm hN (by rfl) [3, 7] (by rfl) rfl ?_
                refine ⟨⟨_, rfl, rfl, ?_⟩, ?_⟩
                · skip
                  refine g1 ?_
                  refine anyS_cons T0_ok hP hm hN (by rfl) [7] (by rfl) rfl ?_
                  refine ⟨⟨_, rfl, rfl, ?_⟩, trivial⟩
                  refine g1 ?_
                  refine anyS_cons T0_ok hP hm hN (by rfl) [8] (by rfl) rfl ?_
                  refine ⟨⟨_, rfl, rfl, ?_⟩, trivial⟩
                  refine ga1 ?_ (hpre := by refine ⟨by first | trivial | rfl | omega | (simp only [shF_len, List.length_map]; omega) | (exact ⟨by omega, by omega⟩), rfl, rfl, Nat.le_of_ble_eq_true rfl, fun h => (nomatch h), ?_, ?_⟩ <;> (simp only [Ob.kill, Ob.app, Bool.false_eq_true, if_false, List.length_append, List.length_take, List.length_drop, List.length_map, List.length_cons, List.length_nil, shF_len, List.nil_append, List.all_nil, Bool.not_true, List.map_nil]; omega)) (hst := by simp +decide (disch := omega) only [nrm, lk_nrm, dc_nrm, mk_nrm, mf_nrm, ti_nrm, ls_nrm, mp_nrm, nb_nrm, hset, pick_and, pick_or, ↓reduceIte, Nat.reduceAdd, wI64, wI32, wI16, wI8, wU8, List.length_map, Int.toNat_natCast, kl_nrm, List.all_nil, Bool.not_true]; rfl)
                  refine anyS_cons T0_ok hP hm hN (by rfl) [9] (by rfl) rfl ?_
                  refine ⟨⟨_, rfl, rfl, ?_⟩, trivial⟩
                  refine g1 ?_
                  refine anyS_cons T0_ok hP hm hN (by rfl) [11] (by rfl) rfl ?_
                  refine ⟨⟨_, rfl, rfl, ?_⟩, trivial⟩
                  refine g1 ?_
                  refine anyS_cons T0_ok hP hm hN (by rfl) [12] (by rfl) rfl ?_
                  refine ⟨⟨_, rfl, rfl, ?_⟩, trivial⟩
                  refine g1 ?_
                  refine anyS_cons T0_ok hP hm hN (by rfl) [13] (by rfl) rfl ?_
                  refine ⟨⟨_, rfl, rfl, ?_⟩, trivial⟩
                  refine g1 ?_
                  refine anyS_done (by rfl) ?_
                  refine awp_ret ?_
                  refine fin_mk [2] rfl rfl ?_ (by simp only [hr, insL_rows]; exact objs_cons rfl rfl rfl (by simp [Ob.kill, Ob.app, List.map_take, List.map_drop, List.take_of_length_le, shF_len] <;> rfl) rfl (.inl rfl) objs_nil) (by decide)
                  show D.tup [.agg [.val (.int .i16 (addR p xs b).1.1), .own 2], .val (.int .i64 (addR p xs b).2.1), .val (.bool (addR p xs b).2.2)] = _
                  rw [hr]
                  rfl
                refine ⟨⟨_, rfl, rfl, ?_⟩, trivial⟩
                refine g1 ?_
                refine anyS_cons T0_ok hP hm hN (by rfl) [3, 8] (by rfl) rfl ?_
                refine ⟨⟨_, rfl, rfl, ?_⟩, ?_⟩
                · skip
                  refine g1 ?_
                  refine anyS_cons T0_ok hP hm hN (by rfl) [8] (by rfl) rfl ?_
                  refine ⟨⟨_, rfl, rfl, ?_⟩, trivial⟩
                  refine ga1 ?_ (hpre := by refine ⟨by first | trivial | rfl | omega | (simp only [shF_len, List.length_map]; omega) | (exact ⟨by omega, by omega⟩), rfl, rfl, Nat.le_of_ble_eq_true rfl, fun h => (nomatch h), ?_, ?_⟩ <;> (simp only [Ob.kill, Ob.app, Bool.false_eq_true, if_false, List.length_append, List.length_take, List.length_drop, List.length_map, List.length_cons, List.length_nil, shF_len, List.nil_append, List.all_nil, Bool.not_true, List.map_nil]; omega)) (hst := by simp +decide (disch := omega) only [nrm, lk_nrm, dc_nrm, mk_nrm, mf_nrm, ti_nrm, ls_nrm, mp_nrm, nb_nrm, hset, pick_and, pick_or, ↓reduceIte, Nat.reduceAdd, wI64, wI32, wI16, wI8, wU8, List.length_map, Int.toNat_natCast, kl_nrm, List.all_nil, Bool.not_true]; rfl)
                  refine anyS_cons T0_ok hP hm hN (by rfl) [9] (by rfl) rfl ?_
                  refine ⟨⟨_, rfl, rfl, ?_⟩, trivial⟩
                  refine g1 ?_
                  refine anyS_cons T0_ok hP hm hN (by rfl) [11] (by rfl) rfl ?_
                  refine ⟨⟨_, rfl, rfl, ?_⟩, trivial⟩
                  refine g1 ?_
                  refine anyS_cons T0_ok hP hm hN (by rfl) [12] (by rfl) rfl ?_
                  refine ⟨⟨_, rfl, rfl, ?_⟩, trivial⟩
                  refine g1 ?_
                  refine anyS_cons T0_ok hP hm hN (by rfl) [13] (by rfl) rfl ?_
                  refine ⟨⟨_, rfl, rfl, ?_⟩, trivial⟩
                  refine g1 ?_
                  refine anyS_done (by rfl) ?_
                  refine awp_ret ?_
                  refine fin_mk [2] rfl rfl ?_ (by simp only [hr, insL_rows]; exact objs_cons rfl rfl rfl (by simp [Ob.kill, Ob.app, List.map_take, List.map_drop, List.take_of_length_le, shF_len] <;> rfl) rfl (.inl rfl) objs_nil) (by decide)
                  show D.tup [.agg [.val (.int .i16 (addR p xs b).1.1), .own 2], .val (.int .i64 (addR p xs b).2.1), .val (.bool (addR p xs b).2.2)] = _
                  rw [hr]
                  rfl
                refine ⟨⟨_, rfl, rfl, ?_⟩, trivial⟩
                refine ga1 ?_ (hpre := by refine ⟨by first | trivial | rfl | omega | (simp only [shF_len, List.length_map]; omega) | (exact ⟨by omega, by omega⟩), rfl, rfl, Nat.le_of_ble_eq_true rfl, fun h => (nomatch h), ?_, ?_⟩ <;> (simp only [Ob.kill, Ob.app, Bool.false_eq_true, if_false, List.length_append, List.length_take, List.length_drop, List.length_map, List.length_cons, List.length_nil, shF_len, List.nil_append, List.all_nil, Bool.not_true, List.map_nil]; omega)) (hst := by simp +decide (disch := omega) only [nrm, lk_nrm, dc_nrm, mk_nrm, mf_nrm, ti_nrm, ls_nrm, mp_nrm, nb_nrm, hset, pick_and, pick_or, ↓reduceIte, Nat.reduceAdd, wI64, wI32, wI16, wI8, wU8, List.length_map, Int.toNat_natCast, kl_nrm, List.all_nil, Bool.not_true]; rfl)
                refine anyS_cons T0_ok hP hm hN (by rfl) [3] (by rfl) rfl ?_
                refine ⟨⟨_, rfl, rfl, ?_⟩, trivial⟩
                refine g1 ?_
                refine anyS_cons T0_ok hP hm hN (by rfl) [9] (by rfl) rfl ?_
                refine ⟨⟨_, rfl, rfl, ?_⟩, trivial⟩
                refine g1 ?_
                refine anyS_cons T0_ok hP hm hN (by rfl) [11] (by rfl) rfl ?_
                refine ⟨⟨_, rfl, rfl, ?_⟩, trivial⟩
                refine g1 ?_
                refine anyS_cons T0_ok hP hm hN (by rfl) [12] (by rfl) rfl ?_
                refine ⟨⟨_, rfl, rfl, ?_⟩, trivial⟩
                refine g1 ?_
                refine anyS_cons T0_ok hP hm hN (by rfl) [13] (by rfl) rfl ?_
                refine ⟨⟨_, rfl, rfl, ?_⟩, trivial⟩
                refine g1 ?_
                refine anyS_done (by rfl) ?_
                refine awp_ret ?_
                refine fin_mk [2] rfl rfl ?_ (by simp only [hr, insL_rows]; exact objs_cons rfl rfl rfl (by simp [Ob.kill, Ob.app, List.map_take, List.map_drop, List.take_of_length_le, shF_len] <;> rfl) rfl (.inl rfl) objs_nil) (by decide)
                show D.tup [.agg [.val (.int .i16 (addR p xs b).1.1), .own 2], .val (.int .i64 (addR p xs b).2.1), .val (.bool (addR p xs b).2.2)] = _
                rw [hr]
                rfl
              refine ⟨⟨_, rfl, rfl, ?_⟩, trivial⟩
              refine g1 ?_
              refine anyS_cons T0_ok hP hm hN (by rfl) [2, 8] (by rfl) rfl ?_
              refine ⟨⟨_, rfl, rfl, ?_⟩, ?_⟩
              · skip
                refine g1 ?_
                refine anyS_cons T0_ok hP hm hN (by rfl) [3, 8] (by rfl) rfl ?_
                refine ⟨⟨_, rfl, rfl, ?_⟩, ?_⟩
                · skip
                  refine g1 ?_
                  refine anyS_cons T0_ok hP hm hN (by rfl) [8] (by rfl) rfl ?_
                  refine ⟨⟨_, rfl, rfl, ?_⟩, trivial⟩
                  refine ga1 ?_ (hpre := by refine ⟨by first | trivial | rfl | omega | (simp only [shF_len, List.length_map]; omega) | (exact ⟨by omega, by omega⟩), rfl, rfl, Nat.le_of_ble_eq_true rfl, fun h => (nomatch h), ?_, ?_⟩ <;> (simp only [Ob.kill, Ob.app, Bool.false_eq_true, if_false, List.length_append, List.length_take, List.length_drop, List.length_map, List.length_cons, List.length_nil, shF_len, List.nil_append, List.all_nil, Bool.not_true, List.map_nil]; omega)) (hst := by simp +decide (disch := omega) only [nrm, lk_nrm, dc_nrm, mk_nrm, mf_nrm, ti_nrm, ls_nrm, mp_nrm, nb_nrm, hset, pick_and, pick_or, ↓reduceIte, Nat.reduceAdd, wI64, wI32, wI16, wI8, wU8, List.length_map, Int.toNat_natCast, kl_nrm, List.all_nil, Bool.not_true]; rfl)
                  refine anyS_cons T0_ok hP hm hN (by rfl) [9] (by rfl) rfl ?_
                  refine ⟨⟨_, rfl, rfl, ?_⟩, trivial⟩
                  refine g1 ?_
                  refine anyS_cons T0_ok hP hm hN (by rfl) [11] (by rfl) rfl ?_
                  refine ⟨⟨_, rfl, rfl, ?_⟩, trivial⟩
                  refine g1 ?_
                  refine anyS_cons T0_ok hP hm hN (by rfl) [12] (by rfl) rfl ?_
                  refine ⟨⟨_, rfl, rfl, ?_⟩, trivial⟩
                  refine g1 ?_
                  refine anyS_cons T0_ok hP hm hN (by rfl) [13] (by rfl) rfl ?_
                  refine ⟨⟨_, rfl, rfl, ?_⟩, trivial⟩
                  refine g1 ?_
                  refine anyS_done (by rfl) ?_
                  refine awp_ret ?_
                  refine fin_mk [2] rfl rfl ?_ (by simp only [hr, insL_rows]; exact objs_cons rfl rfl rfl (by simp [Ob.kill, Ob.app, List.map_take, List.map_drop, List.take_of_length_le, shF_len] <;> rfl) rfl (.inl rfl) objs_nil) (by decide)
                  show D.tup [.agg [.val (.int .i16 (addR p xs b).1.1), .own 2], .val (.int .i64 (addR p xs b).2.1), .val (.bool (addR p xs b).2.2)] = _
                  rw [hr]
                  rfl
                refine ⟨⟨_, rfl, rfl, ?_⟩, trivial⟩
                refine ga1 ?_ (hpre := by refine ⟨by first | trivial | rfl | omega | (simp only [shF_len, List.length_map]; omega) | (exact ⟨by omega, by omega⟩), rfl, rfl, Nat.le_of_ble_eq_true rfl, fun h => (nomatch h), ?_, ?_⟩ <;> (simp only [Ob.kill, Ob.app, Bool.false_eq_true, if_false, List.length_append, List.length_take, List.length_drop, List.length_map, List.length_cons, List.length_nil, shF_len, List.nil_append, List.all_nil, Bool.not_true, List.map_nil]; omega)) (hst := by simp +decide (disch := omega) only [nrm, lk_nrm, dc_nrm, mk_nrm, mf_nrm, ti_nrm, ls_nrm, mp_nrm, nb_nrm, hset, pick_and, pick_or, ↓reduceIte, Nat.reduceAdd, wI64, wI32, wI16, wI8, wU8, List.length_map, Int.toNat_natCast, kl_nrm, List.all_nil, Bool.not_true]; rfl)
                refine anyS_cons T0_ok hP hm hN (by rfl) [3] (by rfl) rfl ?_
                refine ⟨⟨_, rfl, rfl, ?_⟩, trivial⟩
                refine g1 ?_
                refine anyS_cons T0_ok hP hm hN (by rfl) [9] (by rfl) rfl ?_
                refine ⟨⟨_, rfl, rfl, ?_⟩, trivial⟩
                refine g1 ?_
                refine anyS_cons T0_ok hP hm hN (by rfl) [11] (by rfl) rfl ?_
                refine ⟨⟨_, rfl, rfl, ?_⟩, trivial⟩
                refine g1 ?_
                refine anyS_cons T0_ok hP hm hN (by rfl) [12] (by rfl) rfl ?_
                refine ⟨⟨_, rfl, rfl, ?_⟩, trivial⟩
                refine g1 ?_
                refine anyS_cons T0_ok hP hm hN (by rfl) [13] (by rfl) rfl ?_
                refine ⟨⟨_, rfl, rfl, ?_⟩, trivial⟩
                refine g1 ?_
                refine anyS_done (by rfl) ?_
                refine awp_ret ?_
                refine fin_mk [2] rfl rfl ?_ (by simp only [hr, insL_rows]; exact objs_cons rfl rfl rfl (by simp [Ob.kill, Ob.app, List.map_take, List.map_drop, List.take_of_length_le, shF_len] <;> rfl) rfl (.inl rfl) objs_nil) (by decide)
                show D.tup [.agg [.val (.int .i16 (addR p xs b).1.1), .own 2], .val (.int .i64 (addR p xs b).2.1), .val (.bool (addR p xs b).2.2)] = _
                rw [hr]
                rfl
              refine ⟨⟨_, rfl, rfl, ?_⟩, trivial⟩
              refine ga1 ?_ (hpre := by refine ⟨by first | trivial | rfl | omega | (simp only [shF_len, List.length_map]; omega) | (exact ⟨by omega, by omega⟩), rfl, rfl, Nat.le_of_ble_eq_true rfl, fun h => (nomatch h), ?_, ?_⟩ <;> (simp only [Ob.kill, Ob.app, Bool.false_eq_true, if_false, List.length_append, List.length_take, List.length_drop, List.length_map, List.length_cons, List.length_nil, shF_len, List.nil_append, List.all_nil, Bool.not_true, List.map_nil]; omega)) (hst := by simp +decide (disch := omega) only [nrm, lk_nrm, dc_nrm, mk_nrm, mf_nrm, ti_nrm, ls_nrm, mp_nrm, nb_nrm, hset, pick_and, pick_or, ↓reduceIte, Nat.reduceAdd, wI64, wI32, wI16, wI8, wU8, List.length_map, Int.toNat_natCast, kl_nrm, List.all_nil, Bool.not_true]; rfl)
              refine anyS_cons T0_ok hP hm hN (by rfl) [2] (by rfl) rfl ?_
              refine ⟨⟨_, rfl, rfl, ?_⟩, trivial⟩
              refine g1 ?_
              refine anyS_cons T0_ok hP hm hN (by rfl) [3] (by rfl) rfl ?_
              refine ⟨⟨_, rfl, rfl, ?_⟩, trivial⟩
              refine g1 ?_
              refine anyS_cons T0_ok hP hm hN (by rfl) [9] (by rfl) rfl ?_
              refine ⟨⟨_, rfl, rfl, ?_⟩, trivial⟩
              refine g1 ?_
              refine anyS_cons T0_ok hP hm hN (by rfl) [11] (by rfl) rfl ?_
              refine ⟨⟨_, rfl, rfl, ?_⟩, trivial⟩
              refine g1 ?_
              refine anyS_cons T0_ok hP hm hN (by rfl) [12] (by rfl) rfl ?_
              refine ⟨⟨_, rfl, rfl, ?_⟩, trivial⟩
              refine g1 ?_
              refine anyS_cons T0_ok hP hm hN (by rfl) [13] (by rfl) rfl ?_
              refine ⟨⟨_, rfl, rfl, ?_⟩, trivial⟩
              refine g1 ?_
              refine anyS_done (by rfl) ?_
              refine awp_ret ?_
              refine fin_mk [2] rfl rfl ?_ (by simp only [hr, insL_rows]; exact objs_cons rfl rfl rfl (by simp [Ob.kill, Ob.app, List.map_take, List.map_drop, List.take_of_length_le, shF_len] <;> rfl) rfl (.inl rfl) objs_nil) (by decide)
              show D.tup [.agg [.val (.int .i16 (addR p xs b).1.1), .own 2], .val (.int .i64 (addR p xs b).2.1), .val (.bool (addR p xs b).2.2)] = _
              rw [hr]
              rfl
            refine ⟨⟨_, rfl, rfl, ?_⟩, trivial⟩
            refine g1 ?_
            refine anyS_cons T0_ok hP hm hN (by rfl) [1, 8] (by rfl) rfl ?_
            refine ⟨⟨_, rfl, rfl, ?_⟩, ?_⟩
            · skip
              refine g1 ?_
              refine anyS_cons T0_ok hP hm hN (by rfl) [2, 8] (by rfl) rfl ?_
              refine ⟨⟨_, rfl, rfl, ?_⟩, ?_⟩
              · skip
                refine g1 ?_
                refine anyS_cons T0_ok hP hm hN (by rfl) [3, 8] (by rfl) rfl ?_
                refine ⟨⟨_, rfl, rfl, ?_⟩, ?_⟩
                · skip
                  refine g1 ?_
                  refine anyS_cons T0_ok hP hm hN (by rfl) [8] (by rfl) rfl ?_
                  refine ⟨⟨_, rfl, rfl, ?_⟩, trivial⟩
                  refine ga1 ?_ (hpre := by refine ⟨by first | trivial | rfl | omega | (simp only [shF_len, List.length_map]; omega) | (exact ⟨by omega, by omega⟩), rfl, rfl, Nat.le_of_ble_eq_true rfl, fun h => (nomatch h), ?_, ?_⟩ <;> (simp only [Ob.kill, Ob.app, Bool.false_eq_true, if_false, List.length_append, List.length_take, List.length_drop, List.length_map, List.length_cons, List.length_nil, shF_len, List.nil_append, List.all_nil, Bool.not_true, List.map_nil]; omega)) (hst := by simp +decide (disch := omega) only [nrm, lk_nrm, dc_nrm, mk_nrm, mf_nrm, ti_nrm, ls_nrm, mp_nrm, nb_nrm, hset, pick_and, pick_or, ↓reduceIte, Nat.reduceAdd, wI64, wI32, wI16, wI8, wU8, List.length_map, Int.toNat_natCast, kl_nrm, List.all_nil, Bool.not_true]; rfl)
                  refine anyS_cons T0_ok hP hm hN (by rfl) [9] (by rfl) rfl ?_
                  refine ⟨⟨_, rfl, rfl, ?_⟩, trivial⟩
                  refine g1 ?_
                  refine anyS_cons T0_ok hP hm hN (by rfl) [11] (by rfl) rfl ?_
                  refine ⟨⟨_, rfl, rfl, ?_⟩, trivial⟩
                  refine g1 ?_
                  refine anyS_cons T0_ok hP hm hN (by rfl) [12] (by rfl) rfl ?_
                  refine ⟨⟨_, rfl, rfl, ?_⟩, trivial⟩
                  refine g1 ?_
                  refine anyS_cons T0_ok hP hm hN (by rfl) [13] (by rfl) rfl ?_
                  refine ⟨⟨_, rfl, rfl, ?_⟩, trivial⟩
                  refine g1 ?_
                  refine anyS_done (by rfl) ?_
                  refine awp_ret ?_
                  refine fin_mk [2] rfl rfl ?_ (by simp only [hr, insL_rows]; exact objs_cons rfl rfl rfl (by simp [Ob.kill, Ob.app, List.map_take, List.map_drop, List.take_of_length_le, shF_len] <;> rfl) rfl (.inl rfl) objs_nil) (by decide)
                  show D.tup [.agg [.val (.int .i16 (addR p xs b).1.1), .own 2], .val (.int .i64 (addR p xs b).2.1), .val (.bool (addR p xs b).2.2)] = _
                  rw [hr]
                  rfl
                refine ⟨⟨_, rfl, rfl, ?_⟩, trivial⟩
                refine ga1 ?_ (hpre := by refine ⟨by first | trivial | rfl | omega | (simp only [shF_len, List.length_map]; omega) | (exact ⟨by omega, by omega⟩), rfl, rfl, Nat.le_of_ble_eq_true rfl, fun h => (nomatch h), ?_, ?_⟩ <;> (simp only [Ob.kill, Ob.app, Bool.false_eq_true, if_false, List.length_append, List.length_take, List.length_drop, List.length_map, List.length_cons, List.length_nil, shF_len, List.nil_append, List.all_nil, Bool.not_true, List.map_nil]; omega)) (hst := by simp +decide (disch := omega) only [nrm, lk_nrm, dc_nrm, mk_nrm, mf_nrm, ti_nrm, ls_nrm, mp_nrm, nb_nrm, hset, pick_and, pick_or, ↓reduceIte, Nat.reduceAdd, wI64, wI32, wI16, wI8, wU8, List.length_map, Int.toNat_natCast, kl_nrm, List.all_nil, Bool.not_true]; rfl)
                refine anyS_cons T0_ok hP hm hN (by rfl) [3] (by rfl) rfl ?_
                refine ⟨⟨_, rfl, rfl, ?_⟩, trivial⟩
                refine g1 ?_
                refine anyS_cons T0_ok hP hm hN (by rfl) [9] (by rfl) rfl ?_
                refine ⟨⟨_, rfl, rfl, ?_⟩, trivial⟩
                refine g1 ?_
                refine anyS_cons T0_ok hP hm hN (by rfl) [11] (by rfl) rfl ?_
                refine ⟨⟨_, rfl, rfl, ?_⟩, trivial⟩
                refine g1 ?_
                refine anyS_cons T0_ok hP hm hN (by rfl) [12] (by rfl) rfl ?_
                refine ⟨⟨_, rfl, rfl, ?_⟩, trivial⟩
                refine g1 ?_
                refine anyS_cons T0_ok hP hm hN (by rfl) [13] (by rfl) rfl ?_
                refine ⟨⟨_, rfl, rfl, ?_⟩, trivial⟩
                refine g1 ?_
                refine anyS_done (by rfl) ?_
                refine awp_ret ?_
                refine fin_mk [2] rfl rfl ?_ (by simp only [hr, insL_rows]; exact objs_cons rfl rfl rfl (by simp [Ob.kill, Ob.app, List.map_take, List.map_drop, List.take_of_length_le, shF_len] <;> rfl) rfl (.inl rfl) objs_nil) (by decide)
                show D.tup [.agg [.val (.int .i16 (addR p xs b).1.1), .own 2], .val (.int .i64 (addR p xs b).2.1), .val (.bool (addR p xs b).2.2)] = _
                rw [hr]
                rfl
              refine ⟨⟨_, rfl, rfl, ?_⟩, trivial⟩
              refine ga1 ?_ (hpre := by refine ⟨by first | trivial | rfl | omega | (simp only [shF_len, List.length_map]; omega) | (exact ⟨by omega, by omega⟩), rfl, rfl, Nat.le_of_ble_eq_true rfl, fun h => (nomatch h), ?_, ?_⟩ <;> (simp only [Ob.kill, Ob.app, Bool.false_eq_true, if_false, List.length_append, List.length_take, List.length_drop, List.length_map, List.length_cons, List.length_nil, shF_len, List.nil_append, List.all_nil, Bool.not_true, List.map_nil]; omega)) (hst := by simp +decide (disch := omega) only [nrm, lk_nrm, dc_nrm, mk_nrm, mf_nrm, ti_nrm, ls_nrm, mp_nrm, nb_nrm, hset, pick_and, pick_or, ↓reduceIte, Nat.reduceAdd, wI64, wI32, wI16, wI8, wU8, List.length_map, Int.toNat_natCast, kl_nrm, List.all_nil, Bool.not_true]; rfl)
              refine anyS_cons T0_ok hP hm hN (by rfl) [2] (by rfl) rfl ?_
              refine ⟨⟨_, rfl, rfl, ?_⟩, trivial⟩
              refine g1 ?_
              refine anyS_cons T0_ok hP hm hN (by rfl) [3] (by rfl) rfl ?_
              refine ⟨⟨_, rfl, rfl, ?_⟩, trivial⟩
              refine g1 ?_
              refine anyS_cons T0_ok hP hm hN (by rfl) [9] (by rfl) rfl ?_
              refine ⟨⟨_, rfl, rfl, ?_⟩, trivial⟩
              refine g1 ?_
              refine anyS_cons T0_ok hP hm hN (by rfl) [11] (by rfl) rfl ?_
              refine ⟨⟨_, rfl, rfl, ?_⟩, trivial⟩
              refine g1 ?_
              refine anyS_cons T0_ok hP hm hN (by rfl) [12] (by rfl) rfl ?_
              refine ⟨⟨_, rfl, rfl, ?_⟩, trivial⟩
              refine g1 ?_
              refine anyS_cons T0_ok hP hm hN (by rfl) [13] (by rfl) rfl ?_
              refine ⟨⟨_, rfl, rfl, ?_⟩, trivial⟩
              refine g1 ?_
              refine anyS_done (by rfl) ?_
              refine awp_ret ?_
              refine fin_mk [2] rfl rfl ?_ (by simp only [hr, insL_rows]; exact objs_cons rfl rfl rfl (by simp [Ob.kill, Ob.app, List.map_take, List.map_drop, List.take_of_length_le, shF_len] <;> rfl) rfl (.inl rfl) objs_nil) (by decide)
              show D.tup [.agg [.val (.int .i16 (addR p xs b).1.1), .own 2], .val (.int .i64 (addR p xs b).2.1), .val (.bool (addR p xs b).2.2)] = _
              rw [hr]
              rfl
            refine ⟨⟨_, rfl, rfl, ?_⟩, trivial⟩
            refine ga1 ?_ (hpre := by refine ⟨by first | trivial | rfl | omega | (simp only [shF_len, List.length_map]; omega) | (exact ⟨by omega, by omega⟩), rfl, rfl, Nat.le_of_ble_eq_true rfl, fun h => (nomatch h), ?_, ?_⟩ <;> (simp only [Ob.kill, Ob.app, Bool.false_eq_true, if_false, List.length_append, List.length_take, List.length_drop, List.length_map, List.length_cons, List.length_nil, shF_len, List.nil_append, List.all_nil, Bool.not_true, List.map_nil]; omega)) (hst := by simp +decide (disch := omega) only [nrm, lk_nrm, dc_nrm, mk_nrm, mf_nrm, ti_nrm, ls_nrm, mp_nrm, nb_nrm, hset, pick_and, pick_or, ↓reduceIte, Nat.reduceAdd, wI64, wI32, wI16, wI8, wU8, List.length_map, Int.toNat_natCast, kl_nrm, List.all_nil, Bool.not_true]; rfl)
            refine anyS_cons T0_ok hP hm hN (by rfl) [1] (by rfl) rfl ?_
            refine ⟨⟨_, rfl, rfl, ?_⟩, trivial⟩
            refine g1 ?_
            refine anyS_cons T0_ok hP hm hN (by rfl) [2] (by rfl) rfl ?_
            refine ⟨⟨_, rfl, rfl, ?_⟩, trivial⟩
            refine g1 ?_
            refine anyS_cons T0_ok hP hm hN (by rfl) [3] (by rfl) rfl ?_
            refine ⟨⟨_, rfl, rfl, ?_⟩, trivial⟩
            refine g1 ?_
            refine anyS_cons T0_ok hP hm hN (by rfl) [9] (by rfl) rfl ?_
            refine ⟨⟨_, rfl, rfl, ?_⟩, trivial⟩
            refine g1 ?_
            refine anyS_cons T0_ok hP hm hN (by rfl) [11] (by rfl) rfl ?_
            refine ⟨⟨_, rfl, rfl, ?_⟩, trivial⟩
            refine g1 ?_
            refine anyS_cons T0_ok hP hm hN (by rfl) [12] (by rfl) rfl ?_
            refine ⟨⟨_, rfl, rfl, ?_⟩, trivial⟩
            refine g1 ?_
            refine anyS_cons T0_ok hP hm hN (by rfl) [13] (by rfl) rfl ?_
            refine ⟨⟨_, rfl, rfl, ?_⟩, trivial⟩
            refine g1 ?_
            refine anyS_done (by rfl) ?_
            refine awp_ret ?_
            refine fin_mk [2] rfl rfl ?_ (by simp only [hr, insL_rows]; exact objs_cons rfl rfl rfl (by simp [Ob.kill, Ob.app, List.map_take, List.map_drop, List.take_of_length_le, shF_len] <;> rfl) rfl (.inl rfl) objs_nil) (by decide)
            show D.tup [.agg [.val (.int .i16 (addR p xs b).1.1), .own 2], .val (.int .i64 (addR p xs b).2.1), .val (.bool (addR p xs b).2.2)] = _
            rw [hr]
            rfl
        · skip
          have h2 : (decide ((lowG xs.length p (atX xs) (placeN (beforeB b (xs.map Prod.snd)) xs.length)) ≥ 0) && (decide ((highG xs.length p (atX xs) (placeN (beforeB b (xs.map Prod.snd)) xs.length)) < 0) || decide ((lowG xs.length p (atX xs) (placeN (beforeB b (xs.map Prod.snd)) xs.length)) ≤ (highG xs.length p (atX xs) (placeN (beforeB b (xs.map Prod.snd)) xs.length))))) = false := by first | (rw [hs0, hs1]; exact h63) | (rw [hs0]; exact h63)
          have h3 := h2
          have h4 := hc1
          simp only [Bool.and_eq_false_iff, Bool.or_eq_false_iff, decide_eq_false_iff_not] at h3 h4
          have hhi2 : 1 ≤ (highG xs.length p (atX xs) (placeN (beforeB b (xs.map Prod.snd)) xs.length)) ∧ (highG xs.length p (atX xs) (placeN (beforeB b (xs.map Prod.snd)) xs.length)) ≤ (xs.length : Int) - ((placeN (beforeB b (xs.map Prod.snd)) xs.length) : Nat) := by
            rcases hhi with h | h
            · exfalso; omega
            · exact h
          have hr := addR_high p xs b hc0 hc1 h2
          refine awp_seq ?_
          refine r1 T0_ok hP hm hN ?_
          refine g1 ?_
          refine g1 ?_
          refine awp_seq ?_
          refine r1 T0_ok hP hm hN ?_
          refine g1 ?_
          refine g1 ?_
          refine awp_seq ?_
          refine r1 T0_ok hP hm hN ?_
          refine g1 ?_
          refine g1 ?_
          refine awp_block ?_
          refine awp_loop (fun n st => ∃ i : Nat, i ≤ (highG xs.length p (atX xs) (placeN (beforeB b (xs.map Prod.snd)) xs.length)).toNat ∧ n = (highG xs.length p (atX xs) (placeN (beforeB b (xs.map Prod.snd)) xs.length)).toNat - i ∧ st = ⟨[(16, .val (.int .i64 ((((placeN (beforeB b (xs.map Prod.snd)) xs.length) : Nat) : Int) + ((i : Nat) : Int)))), (14, .val (.int .i64 (highG xs.length p (atX xs) (placeN (beforeB b (xs.map Prod.snd)) xs.length)))), (12, .val (.int .i64 (roomR p xs (((placeN (beforeB b (xs.map Prod.snd)) xs.length) : Nat) : Int)).1)), (11, .val (.int .i64 (highG xs.length p (atX xs) (placeN (beforeB b (xs.map Prod.snd)) xs.length)))), (10, .own 1), (7, .val (.int .i64 (((placeN (beforeB b (xs.map Prod.snd)) xs.length) : Nat) : Int))), (4, .ptr 0 0 0), (1, .rptr 8 [bkRow b] 0 0), (0, .rptr 2 [[.val (.int .i16 p), .sl 9 (pls xs)]] 0 0)], [(1, ⟨58, 9, false, pls (shF (fun x => x + 1) ((((placeN (beforeB b (xs.map Prod.snd)) xs.length) : Nat) : Int)) xs i)⟩), (0, ⟨34, 2, true, [[.val (.int .i16 0), .nil]]⟩)], 2⟩) ((highG xs.length p (atX xs) (placeN (beforeB b (xs.map Prod.snd)) xs.length)).toNat) ⟨_, (by rw [show (((placeN (beforeB b (xs.map Prod.snd)) xs.length) : Nat) : Int) + ((0 : Nat) : Int) = (((placeN (beforeB b (xs.map Prod.snd)) xs.length) : Nat) : Int) by omega]; exact weak_sl (sub_cons rfl (sub_cons rfl (sub_cons rfl (sub_cons rfl (sub_cons rfl (sub_cons rfl (sub_cons rfl (sub_cons rfl (sub_cons rfl (sub_nil))))))))))), 0, by omega, rfl, rfl⟩ ?_
          rintro n st ⟨i, hii, hni, rfl⟩
          have hsl := shF_len (fun x => x + 1) ((((placeN (beforeB b (xs.map Prod.snd)) xs.length) : Nat) : Int)) xs i
          refine awp_seq ?_
          refine awp_seq ?_
          refine r1 T0_ok hP hm hN ?_
          refine g1 ?_
          refine g1 ?_
          refine g1 ?_
          refine g1 ?_
          refine g1 ?_
          refine awp_cond rfl (fun h90 => ?_) (fun h90 => ?_)
          · skip
            have hlti : i < (highG xs.length p (atX xs) (placeN (beforeB b (xs.map Prod.snd)) xs.length)).toNat := by simp only [decide_eq_true_eq] at h90; omega
            refine awp_skip ?_
            refine awp_seq ?_
            refine awp_block ?_
            refine r1 T0_ok hP hm hN ?_
            refine g1 ?_
            refine g1 ?_
            refine g1 ?_
            refine g1 ?_
            refine g1 ?_
            refine g1 ?_
            refine g1 ?_
            refine g1 ?_
            refine g1 ?_
            refine r1 T0_ok hP hm hN ?_
            refine g1 ?_
            refine g1 ?_
            refine g1 ?_
            refine ⟨(highG xs.length p (atX xs) (placeN (beforeB b (xs.map Prod.snd)) xs.length)).toNat - (i + 1), _, by omega, (by rw [shF, pls_set, show (((placeN (beforeB b (xs.map Prod.snd)) xs.length) : Nat) : Int) + ((i + 1 : Nat) : Int) = (((placeN (beforeB b (xs.map Prod.snd)) xs.length) : Nat) : Int) + (i : Int) + 1 by omega]; exact weak_sl (sub_cons rfl (sub_cons rfl (sub_cons rfl (sub_cons rfl (sub_cons rfl (sub_cons rfl (sub_cons rfl (sub_cons rfl (sub_cons rfl (sub_nil))))))))))), i + 1, by omega, rfl, rfl⟩
          · skip
            have hgei : ¬ i < (highG xs.length p (atX xs) (placeN (beforeB b (xs.map Prod.snd)) xs.length)).toNat := by simp only [decide_eq_false_iff_not] at h90; omega
            have heqi : i = (highG xs.length p (atX xs) (placeN (beforeB b (xs.map Prod.snd)) xs.length)).toNat := by omega
            subst heqi
            refine awp_exit ?_
            repeat refine thenA_exit ?_
            refine blockA_hit ?_
            refine awp_seq ?_
            refine r1 T0_ok hP hm hN ?_
            refine g1 ?_ (hst := by simp +decide (disch := omega) only [nrm, lk_nrm, dc_nrm, mk_nrm, mf_nrm, ti_nrm, ls_nrm, mp_nrm, nb_nrm, hset, pick_and, pick_or, ↓reduceIte, Nat.reduceAdd, wI64, wI32, wI16, wI8, wU8, List.length_map, Int.toNat_natCast, kl_nrm, List.all_nil, Bool.not_true]; rfl)
            refine g1 ?_
            refine g1 ?_
            refine g1 ?_
            refine ga1 ?_ (hpre := by refine ⟨by first | trivial | rfl | omega | (simp only [shF_len, List.length_map]; omega) | (exact ⟨by omega, by omega⟩), rfl, rfl, Nat.le_of_ble_eq_true rfl, fun h => (nomatch h), ?_, ?_⟩ <;> (simp only [Ob.kill, Ob.app, Bool.false_eq_true, if_false, List.length_append, List.length_take, List.length_drop, List.length_map, List.length_cons, List.length_nil, shF_len, List.nil_append, List.all_nil, Bool.not_true, List.map_nil]; omega)) (hst := by simp +decide (disch := omega) only [nrm, lk_nrm, dc_nrm, mk_nrm, mf_nrm, ti_nrm, ls_nrm, mp_nrm, nb_nrm, hset, pick_and, pick_or, ↓reduceIte, Nat.reduceAdd, wI64, wI32, wI16, wI8, wU8, List.length_map, Int.toNat_natCast, kl_nrm, List.all_nil, Bool.not_true]; rfl)
            refine g1 ?_
            refine awp_seq ?_
            refine r1 T0_ok hP hm hN ?_
            refine g1 ?_
            refine g1 ?_
            refine g1 ?_
            refine g1 ?_
            refine g1 ?_
            refine g1 ?_
            refine g1 ?_
            refine g1 ?_
            refine ga1 ?_ (hpre := by refine ⟨by first | trivial | rfl | omega | (simp only [shF_len, List.length_map]; omega) | (exact ⟨by omega, by omega⟩), rfl, rfl, Nat.le_of_ble_eq_true rfl, fun h => (nomatch h), ?_, ?_⟩ <;> (simp only [Ob.kill, Ob.app, Bool.false_eq_true, if_false, List.length_append, List.length_take, List.length_drop, List.length_map, List.length_cons, List.length_nil, shF_len, List.nil_append, List.all_nil, Bool.not_true, List.map_nil]; omega)) (hst := by simp +decide (disch := omega) only [nrm, lk_nrm, dc_nrm, mk_nrm, mf_nrm, ti_nrm, ls_nrm, mp_nrm, nb_nrm, hset, pick_and, pick_or, ↓reduceIte, Nat.reduceAdd, wI64, wI32, wI16, wI8, wU8, List.length_map, Int.toNat_natCast, kl_nrm, List.all_nil, Bool.not_true]; rfl)
            refine g1 ?_
            refine awp_seq ?_
            refine awp_any hP Pr_mix _ rfl 14 rfl ?_
            refine anyS_float T0_ok hP hm hN (by rfl) 0 rfl rfl rfl (by rfl) (by rfl) (by rfl) ?_
            refine g1 ?_
            refine anyS_float T0_ok hP hm hN (by rfl) 4 rfl rfl rfl (by rfl) (by rfl) (by rfl) ?_
            refine g1 ?_
            refine anyS_float T0_ok hP hm hN (by rfl) 5 rfl rfl rfl (by rfl) (by rfl) (by rfl) ?_
            refine g1 ?_
            refine anyS_float T0_ok hP hm hN (by rfl) 6 rfl rfl rfl (by rfl) (by rfl) (by rfl) ?_
            refine g1 ?_
            refine anyS_float T0_ok hP hm hN (by rfl) 10 rfl rfl rfl (by rfl) (by rfl) (by rfl) ?_
            refine g1 ?_
            refine anyS_cons T0_ok hP hm hN (by rfl) [1, 7] (by rfl) rfl ?_
            refine ⟨⟨_, rfl, rfl, ?_⟩, ?_⟩
            · skip
              refine g1 ?_
              refine anyS_cons T0_ok hP hm hN (by rfl) [2, 7] (by rfl) rfl ?_
              refine ⟨⟨_, rfl, rfl, ?_⟩, ?_⟩
              · skip
                refine g1 ?_
                refine anyS_cons T0_ok hP hm hN (by rfl) [3, 7] (by rfl) rfl ?_
                refine ⟨⟨_, rfl, rfl, ?_⟩, ?_⟩
                · skip
                  refine g1 ?_
                  refine anyS_cons T0_ok hP hm hN (by rfl) [7] (by rfl) rfl ?_
                  refine ⟨⟨_, rfl, rfl, ?_⟩, trivial⟩
                  refine g1 ?_
                  refine anyS_cons T0_ok hP hm hN (by rfl) [8] (by rfl) rfl ?_
                  refine ⟨⟨_, rfl, rfl, ?_⟩, trivial⟩
                  refine ga1 ?_ (hpre := by refine ⟨by first | trivial | rfl | omega | (simp only [shF_len, List.length_map]; omega) | (exact ⟨by omega, by omega⟩), rfl, rfl, Nat.le_of_ble_eq_true rfl, fun h => (nomatch h), ?_, ?_⟩ <;> (simp only [Ob.kill, Ob.app, Bool.false_eq_true, if_false, List.length_append, List.length_take, List.length_drop, List.length_map, List.length_cons, List.length_nil, shF_len, List.nil_append, List.all_nil, Bool.not_true, List.map_nil]; omega)) (hst := by simp +decide (disch := omega) only [nrm, lk_nrm, dc_nrm, mk_nrm, mf_nrm, ti_nrm, ls_nrm, mp_nrm, nb_nrm, hset, pick_and, pick_or, ↓reduceIte, Nat.reduceAdd, wI64, wI32, wI16, wI8, wU8, List.length_map, Int.toNat_natCast, kl_nrm, List.all_nil, Bool.not_true]; rfl)
                  refine anyS_cons T0_ok hP hm hN (by rfl) [9] (by rfl) rfl ?_
                  refine ⟨⟨_, rfl, rfl, ?_⟩, trivial⟩
                  refine g1 ?_
                  refine anyS_cons T0_ok hP hm hN (by rfl) [11] (by rfl) rfl ?_
                  refine ⟨⟨_, rfl, rfl, ?_⟩, trivial⟩
                  refine g1 ?_
                  refine anyS_cons T0_ok hP hm hN (by rfl) [12] (by rfl) rfl ?_
                  refine ⟨⟨_, rfl, rfl, ?_⟩, trivial⟩
                  refine g1 ?_
                  refine anyS_cons T0_ok hP hm hN (by rfl) [13] (by rfl) rfl ?_
                  refine ⟨⟨_, rfl, rfl, ?_⟩, trivial⟩
                  refine g1 ?_
                  refine anyS_done (by rfl) ?_
                  refine awp_ret ?_
                  refine fin_mk [2] rfl rfl ?_ (by simp only [hr, insL_rows]; exact objs_cons rfl rfl rfl (by simp [Ob.kill, Ob.app, List.map_take, List.map_drop, List.take_of_length_le, shF_len] <;> rfl) rfl (.inl rfl) objs_nil) (by decide)
                  show D.tup [.agg [.val (.int .i16 (addR p xs b).1.1), .own 2], .val (.int .i64 (addR p xs b).2.1), .val (.bool (addR p xs b).2.2)] = _
                  rw [hr]
                  rfl
                refine ⟨⟨_, rfl, rfl, ?_⟩, trivial⟩
                refine g1 ?_
                refine anyS_cons T0_ok hP hm hN (by rfl) [3, 8] (by rfl) rfl ?_
                refine ⟨⟨_, rfl, rfl, ?_⟩, ?_⟩
                · skip
                  refine g1 ?_
                  refine anyS_cons T0_ok hP hm hN (by rfl) [8] (by rfl) rfl ?_
                  refine ⟨⟨_, rfl, rfl, ?_⟩, trivial⟩
                  refine ga1 ?_ (hpre := by refine ⟨by first | trivial | rfl | omega | (simp only [shF_len, List.length_map]; omega) | (exact ⟨by omega, by omega⟩), rfl, rfl, Nat.le_of_ble_eq_true rfl, fun h => (nomatch h), ?_, ?_⟩ <;> (simp only [Ob.kill, Ob.app, Bool.false_eq_true, if_false, List.length_append, List.length_take, List.length_drop, List.length_map, List.length_cons, List.length_nil, shF_len, List.nil_append, List.all_nil, Bool.not_true, List.map_nil]; omega)) (hst := by simp +decide (disch := omega) only [nrm, lk_nrm, dc_nrm, mk_nrm, mf_nrm, ti_nrm, ls_nrm, mp_nrm, nb_nrm, hset, pick_and, pick_or, ↓reduceIte, Nat.reduceAdd, wI64, wI32, wI16, wI8, wU8, List.length_map, Int.toNat_natCast, kl_nrm, List.all_nil, Bool.not_true]; rfl)
                  refine anyS_cons T0_ok hP hm hN (by rfl) [9] (by rfl) rfl ?_
                  refine ⟨⟨_, rfl, rfl, ?_⟩, trivial⟩
                  refine g1 ?_
                  refine anyS_cons T0_ok hP hm hN (by rfl) [11] (by rfl) rfl ?_
                  refine ⟨⟨_, rfl, rfl, ?_⟩, trivial⟩
                  refine g1 ?_
                  refine anyS_cons T0_ok hP hm hN (by rfl) [12] (by rfl) rfl ?_
                  refine ⟨⟨_, rfl, rfl, ?_⟩, trivial⟩
                  refine g1 ?_
                  refine anyS_cons T0_ok hP hm hN (by rfl) [13] (by rfl) rfl ?_
                  refine ⟨⟨_, rfl, rfl, ?_⟩, trivial⟩
                  refine g1 ?_
                  refine anyS_done (by rfl) ?_
                  refine awp_ret ?_
                  refine fin_mk [2] rfl rfl ?_ (by simp only [hr, insL_rows]; exact objs_cons rfl rfl rfl (by simp [Ob.kill, Ob.app, List.map_take, List.map_drop, List.take_of_length_le, shF_len] <;> rfl) rfl (.inl rfl) objs_nil) (by decide)
                  show D.tup [.agg [.val (.int .i16 (addR p xs b).1.1), .own 2], .val (.int .i64 (addR p xs b).2.1), .val (.bool (addR p xs b).2.2)] = _
                  rw [hr]
                  rfl
                refine ⟨⟨_, rfl, rfl, ?_⟩, trivial⟩
                refine ga1 ?_ (hpre := by refine ⟨by first | trivial | rfl | omega | (simp only [shF_len, List.length_map]; omega) | (exact ⟨by omega, by omega⟩), rfl, rfl, Nat.le_of_ble_eq_true rfl, fun h => (nomatch h), ?_, ?_⟩ <;> (simp only [Ob.kill, Ob.app, Bool.false_eq_true, if_false, List.length_append, List.length_take, List.length_drop, List.length_map, List.length_cons, List.length_nil, shF_len, List.nil_append, List.all_nil, Bool.not_true, List.map_nil]; omega)) (hst := by simp +decide (disch := omega) only [nrm, lk_nrm, dc_nrm, mk_nrm, mf_nrm, ti_nrm, ls_nrm, mp_nrm, nb_nrm, hset, pick_and, pick_or, ↓reduceIte, Nat.reduceAdd, wI64, wI32, wI16, wI8, wU8, List.length_map, Int.toNat_natCast, kl_nrm, List.all_nil, Bool.not_true]; rfl)
                refine anyS_cons T0_ok hP hm hN (by rfl) [3] (by rfl) rfl ?_
                refine ⟨⟨_, rfl, rfl, ?_⟩, trivial⟩
                refine g1 ?_
                refine anyS_cons T0_ok hP hm hN (by rfl) [9] (by rfl) rfl ?_
                refine ⟨⟨_, rfl, rfl, ?_⟩, trivial⟩
                refine g1 ?_
                refine anyS_cons T0_ok hP hm hN (by rfl) [11] (by rfl) rfl ?_
                refine ⟨⟨_, rfl, rfl, ?_⟩, trivial⟩
                refine g1 ?_
                refine anyS_cons T0_ok hP hm hN (by rfl) [12] (by rfl) rfl ?_
                refine ⟨⟨_, rfl, rfl, ?_⟩, trivial⟩
                refine g1 ?_
                refine anyS_cons T0_ok hP hm hN (by rfl) [13] (by rfl) rfl ?_
                refine ⟨⟨_, rfl, rfl, ?_⟩, trivial⟩
                refine g1 ?_
                refine anyS_done (by rfl) ?_
                refine awp_ret ?_
                refine fin_mk [2] rfl rfl ?_ (by simp only [hr, insL_rows]; exact objs_cons rfl rfl rfl (by simp [Ob.kill, Ob.app, List.map_take, List.map_drop, List.take_of_length_le, shF_len] <;> rfl) rfl (.inl rfl) objs_nil) (by decide)
                show D.tup [.agg [.val (.int .i16 (addR p xs b).1.1), .own 2], .val (.int .i64 (addR p xs b).2.1), .val (.bool (addR p xs b).2.2)] = _
                rw [hr]
                rfl
              refine ⟨⟨_, rfl, rfl, ?_⟩, trivial⟩
              refine g1 ?_
              refine anyS_cons T0_ok hP hm hN (by rfl) [2, 8] (by rfl) rfl ?_
              refine ⟨⟨_, rfl, rfl, ?_⟩, ?_⟩
              · skip
                refine g1 ?_
                refine anyS_cons T0_ok hP hm hN (by rfl) [3, 8] (by rfl) rfl ?_
                refine ⟨⟨_, rfl, rfl, ?_⟩, ?_⟩
                · skip
                  refine g1 ?_
                  refine anyS_cons T0_ok hP hm hN (by rfl) [8] (by rfl) rfl ?_
                  refine ⟨⟨_, rfl, rfl, ?_⟩, trivial⟩
                  refine ga1 ?_ (hpre := by refine ⟨by first | trivial | rfl | omega | (simp only [shF_len, List.length_map]; omega) | (exact ⟨by omega, by omega⟩), rfl, rfl, Nat.le_of_ble_eq_true rfl, fun h => (nomatch h), ?_, ?_⟩ <;> (simp only [Ob.kill, Ob.app, Bool.false_eq_true, if_false, List.length_append, List.length_take, List.length_drop, List.length_map, List.length_cons, List.length_nil, shF_len, List.nil_append, List.all_nil, Bool.not_true, List.map_nil]; omega)) (hst := by simp +decide (disch := omega) only [nrm, lk_nrm, dc_nrm, mk_nrm, mf_nrm, ti_nrm, ls_nrm, mp_nrm, nb_nrm, hset, pick_and, pick_or, ↓reduceIte, Nat.reduceAdd, wI64, wI32, wI16, wI8, wU8, List.length_map, Int.toNat_natCast, kl_nrm, List.all_nil, Bool.not_true]; rfl)
                  refine anyS_cons T0_ok hP hm hN (by rfl) [9] (by rfl) rfl ?_
                  refine ⟨⟨_, rfl, rfl, ?_⟩, trivial⟩
                  refine g1 ?_
                  refine anyS_cons T0_ok hP hm hN (by rfl) [11] (by rfl) rfl ?_
                  refine ⟨⟨_, rfl, rfl, ?_⟩, trivial⟩
                  refine g1 ?_
                  refine anyS_cons T0_ok hP hm hN (by rfl) [12] (by rfl) rfl ?_
                  refine ⟨⟨_, rfl, rfl, ?_⟩, trivial⟩
                  refine g1 ?_
                  refine anyS_cons T0_ok hP hm hN (by rfl) [13] (by rfl) rfl ?_
                  refine ⟨⟨_, rfl, rfl, ?_⟩, trivial⟩
                  refine g1 ?_
                  refine anyS_done (by rfl) ?_
                  refine awp_ret ?_
                  refine fin_mk [2] rfl rfl ?_ (by simp only [hr, insL_rows]; exact objs_cons rfl rfl rfl (by simp [Ob.kill, Ob.app, List.map_take, List.map_drop, List.take_of_length_le, shF_len] <;> rfl) rfl (.inl rfl) objs_nil) (by decide)
                  show D.tup [.agg [.val (.int .i16 (addR p xs b).1.1), .own 2], .val (.int .i64 (addR p xs b).2.1), .val (.bool (addR p xs b).2.2)] = _
                  rw [hr]
                  rfl
                refine ⟨⟨_, rfl, rfl, ?_⟩, trivial⟩
                refine ga1 ?_ (hpre := by refine ⟨by first | trivial | rfl | omega | (simp only [shF_len, List.length_map]; omega) | (exact ⟨by omega, by omega⟩), rfl, rfl, Nat.le_of_ble_eq_true rfl, fun h => (nomatch h), ?_, ?_⟩ <;> (simp only [Ob.kill, Ob.app, Bool.false_eq_true, if_false, List.length_append, List.length_take, List.length_drop, List.length_map, List.length_cons, List.length_nil, shF_len, List.nil_append, List.all_nil, Bool.not_true, List.map_nil]; omega)) (hst := by simp +decide (disch := omega) only [nrm, lk_nrm, dc_nrm, mk_nrm, mf_nrm, ti_nrm, ls_nrm, mp_nrm, nb_nrm, hset, pick_and, pick_or, ↓reduceIte, Nat.reduceAdd, wI64, wI32, wI16, wI8, wU8, List.length_map, Int.toNat_natCast, kl_nrm, List.all_nil, Bool.not_true]; rfl)
                refine anyS_cons T0_ok hP hm hN (by rfl) [3] (by rfl) rfl ?_
                refine ⟨⟨_, rfl, rfl, ?_⟩, trivial⟩
                refine g1 ?_
                refine anyS_cons T0_ok hP hm hN (by rfl) [9] (by rfl) rfl ?_
                refine ⟨⟨_, rfl, rfl, ?_⟩, trivial⟩
                refine g1 ?_
                refine anyS_cons T0_ok hP hm hN (by rfl) [11] (by rfl) rfl ?_
                refine ⟨⟨_, rfl, rfl, ?_⟩, trivial⟩
                refine g1 ?_
                refine anyS_cons T0_ok hP hm hN (by rfl) [12] (by rfl) rfl ?_
                refine ⟨⟨_, rfl, rfl, ?_⟩, trivial⟩
                refine g1 ?_
                refine anyS_cons T0_ok hP hm hN (by rfl) [13] (by rfl) rfl ?_
                refine ⟨⟨_, rfl, rfl, ?_⟩, trivial⟩
                refine g1 ?_
                refine anyS_done (by rfl) ?_
                refine awp_ret ?_
                refine fin_mk [2] rfl rfl ?_ (by simp only [hr, insL_rows]; exact objs_cons rfl rfl rfl (by simp [Ob.kill, Ob.app, List.map_take, List.map_drop, List.take_of_length_le, shF_len] <;> rfl) rfl (.inl rfl) objs_nil) (by decide)
                show D.tup [.agg [.val (.int .i16 (addR p xs b).1.1), .own 2], .val (.int .i64 (addR p xs b).2.1), .val (.bool (addR p xs b).2.2)] = _
                rw [hr]
                rfl
              refine ⟨⟨_, rfl, rfl, ?_⟩, trivial⟩
              refine ga1 ?_ (hpre := by refine ⟨by first | trivial | rfl | omega | (simp only [shF_len, List.length_map]; omega) | (exact ⟨by omega, by omega⟩), rfl, rfl, Nat.le_of_ble_eq_true rfl, fun h => (nomatch h), ?_, ?_⟩ <;> (simp only [Ob.kill, Ob.app, Bool.false_eq_true, if_false, List.length_append, List.length_take, List.length_drop, List.length_map, List.length_cons, List.length_nil, shF_len, List.nil_append, List.all_nil, Bool.not_true, List.map_nil]; omega)) (hst := by simp +decide (disch := omega) only [nrm, lk_nrm, dc_nrm, mk_nrm, mf_nrm, ti_nrm, ls_nrm, mp_nrm, nb_nrm, hset, pick_and, pick_or, ↓reduceIte, Nat.reduceAdd, wI64, wI32, wI16, wI8, wU8, List.length_map, Int.toNat_natCast, kl_nrm, List.all_nil, Bool.not_true]; rfl)
              refine anyS_cons T0_ok hP hm hN (by rfl) [2] (by rfl) rfl ?_
              refine ⟨⟨_, rfl, rfl, ?_⟩, trivial⟩
              refine g1 ?_
              refine anyS_cons T0_ok hP hm hN (by rfl) [3] (by rfl) rfl ?_
              refine ⟨⟨_, rfl, rfl, ?_⟩, trivial⟩
              refine g1 ?_
              refine anyS_cons T0_ok hP hm hN (by rfl) [9] (by rfl) rfl ?_
              refine ⟨⟨_, rfl, rfl, ?_⟩, trivial⟩
              refine g1 ?_
              refine anyS_cons T0_ok hP hm hN (by rfl) [11] (by rfl) rfl ?_
              refine ⟨⟨_, rfl, rfl, ?_⟩, trivial⟩
              refine g1 ?_
              refine anyS_cons T0_ok hP hm hN (by rfl) [12] (by rfl) rfl ?_
              refine ⟨⟨_, rfl, rfl, ?_⟩, trivial⟩
              refine g1 ?_
              refine anyS_cons T0_ok hP hm hN (by rfl) [13] (by rfl) rfl ?_
              refine ⟨⟨_, rfl, rfl, ?_⟩, trivial⟩
              refine g1 ?_
              refine anyS_done (by rfl) ?_
              refine awp_ret ?_
              refine fin_mk [2] rfl rfl ?_ (by simp only [hr, insL_rows]; exact objs_cons rfl rfl rfl (by simp [Ob.kill, Ob.app, List.map_take, List.map_drop, List.take_of_length_le, shF_len] <;> rfl) rfl (.inl rfl) objs_nil) (by decide)
              show D.tup [.agg [.val (.int .i16 (addR p xs b).1.1), .own 2], .val (.int .i64 (addR p xs b).2.1), .val (.bool (addR p xs b).2.2)] = _
              rw [hr]
              rfl
            refine ⟨⟨_, rfl, rfl, ?_⟩, trivial⟩
            refine g1 ?_
            refine anyS_cons T0_ok hP hm hN (by rfl) [1, 8] (by rfl) rfl ?_
            refine ⟨⟨_, rfl, rfl, ?_⟩, ?_⟩
            · skip
              refine g1 ?_
              refine anyS_cons T0_ok hP hm hN (by rfl) [2, 8] (by rfl) rfl ?_
              refine ⟨⟨_, rfl, rfl, ?_⟩, ?_⟩
              · skip
                refine g1 ?_
                refine anyS_cons T0_ok hP hm hN (by rfl) [3, 8] (by rfl) rfl ?_
                refine ⟨⟨_, rfl, rfl, ?_⟩, ?_⟩
                · skip
                  refine g1 ?_
                  refine anyS_cons T0_ok hP hm hN (by rfl) [8] (by rfl) rfl ?_
                  refine ⟨⟨_, rfl, rfl, ?_⟩, trivial⟩
                  refine ga1 ?_ (hpre := by refine ⟨by first | trivial | rfl | omega | (simp only [shF_len, List.length_map]; omega) | (exact ⟨by omega, by omega⟩), rfl, rfl, Nat.le_of_ble_eq_true rfl, fun h => (nomatch h), ?_, ?_⟩ <;> (simp only [Ob.kill, Ob.app, Bool.false_eq_true, if_false, List.length_append, List.length_take, List.length_drop, List.length_map, List.length_cons, List.length_nil, shF_len, List.nil_append, List.all_nil, Bool.not_true, List.map_nil]; omega)) (hst := by simp +decide (disch := omega) only [nrm, lk_nrm, dc_nrm, mk_nrm, mf_nrm, ti_nrm, ls_nrm, mp_nrm, nb_nrm, hset, pick_and, pick_or, ↓reduceIte, Nat.reduceAdd, wI64, wI32, wI16, wI8, wU8, List.length_map, Int.toNat_natCast, kl_nrm, List.all_nil, Bool.not_true]; rfl)
                  refine anyS_cons T0_ok hP hm hN (by rfl) [9] (by rfl) rfl ?_
                  refine ⟨⟨_, rfl, rfl, ?_⟩, trivial⟩
                  refine g1 ?_
                  refine anyS_cons T0_ok hP hm hN (by rfl) [11] (by rfl) rfl ?_
                  refine ⟨⟨_, rfl, rfl, ?_⟩, trivial⟩
                  refine g1 ?_
                  refine anyS_cons T0_ok hP hm hN (by rfl) [12] (by rfl) rfl ?_
                  refine ⟨⟨_, rfl, rfl, ?_⟩, trivial⟩
                  refine g1 ?_
                  refine anyS_cons T0_ok hP hm hN (by rfl) [13] (by rfl) rfl ?_
                  refine ⟨⟨_, rfl, rfl, ?_⟩, trivial⟩
                  refine g1 ?_
                  refine anyS_done (by rfl) ?_
                  refine awp_ret ?_
                  refine fin_mk [2] rfl rfl ?_ (by simp only [hr, insL_rows]; exact objs_cons rfl rfl rfl (by simp [Ob.kill, Ob.app, List.map_take, List.map_drop, List.take_of_length_le, shF_len] <;> rfl) rfl (.inl rfl) objs_nil) (by decide)
                  show D.tup [.agg [.val (.int .i16 (addR p xs b).1.1), .own 2], .val (.int .i64 (addR p xs b).2.1), .val (.bool (addR p xs b).2.2)] = _
                  rw [hr]
                  rfl
                refine ⟨⟨_, rfl, rfl, ?_⟩, trivial⟩
                refine ga1 ?_ (hpre := by refine ⟨by first | trivial | rfl | omega | (simp only [shF_len, List.length_map]; omega) | (exact ⟨by omega, by omega⟩), rfl, rfl, Nat.le_of_ble_eq_true rfl, fun h => (nomatch h), ?_, ?_⟩ <;> (simp only [Ob.kill, Ob.app, Bool.false_eq_true, if_false, List.length_append, List.length_take, List.length_drop, List.length_map, List.length_cons, List.length_nil, shF_len, List.nil_append, List.all_nil, Bool.not_true, List.map_nil]; omega)) (hst := by simp +decide (disch := omega) only [nrm, lk_nrm, dc_nrm, mk_nrm, mf_nrm, ti_nrm, ls_nrm, mp_nrm, nb_nrm, hset, pick_and, pick_or, ↓reduceIte, Nat.reduceAdd, wI64, wI32, wI16, wI8, wU8, List.length_map, Int.toNat_natCast, kl_nrm, List.all_nil, Bool.not_true]; rfl)
                refine anyS_cons T0_ok hP hm hN (by rfl) [3] (by rfl) rfl ?_
                refine ⟨⟨_, rfl, rfl, ?_⟩, trivial⟩
                refine g1 ?_
                refine anyS_cons T0_ok hP hm hN (by rfl) [9] (by rfl) rfl ?_
                refine ⟨⟨_, rfl, rfl, ?_⟩, trivial⟩
                refine g1 ?_
                refine anyS_cons T0_ok hP hm hN (by rfl) [11] (by rfl) rfl ?_
                refine ⟨⟨_, rfl, rfl, ?_⟩, trivial⟩
                refine g1 ?_
                refine anyS_cons T0_ok hP hm hN (by rfl) [12] (by rfl) rfl ?_
                refine ⟨⟨_, rfl, rfl, ?_⟩, trivial⟩
                refine g1 ?_
                refine anyS_cons T0_ok hP hm hN (by rfl) [13] (by rfl) rfl ?_
                refine ⟨⟨_, rfl, rfl, ?_⟩, trivial⟩
                refine g1 ?_
                refine anyS_done (by rfl) ?_
                refine awp_ret ?_
                refine fin_mk [2] rfl rfl ?_ (by simp only [hr, insL_rows]; exact objs_cons rfl rfl rfl (by simp [Ob.kill, Ob.app, List.map_take, List.map_drop, List.take_of_length_le, shF_len] <;> rfl) rfl (.inl rfl) objs_nil) (by decide)
                show D.tup [.agg [.val (.int .i16 (addR p xs b).1.1), .own 2], .val (.int .i64 (addR p xs b).2.1), .val (.bool (addR p xs b).2.2)] = _
                rw [hr]
                rfl
              refine ⟨⟨_, rfl, rfl, ?_⟩, trivial⟩
              refine ga1 ?_ (hpre := by refine ⟨by first | trivial | rfl | omega | (simp only [shF_len, List.length_map]; omega) | (exact ⟨by omega, by omega⟩), rfl, rfl, Nat.le_of_ble_eq_true rfl, fun h => (nomatch h), ?_, ?_⟩ <;> (simp only [Ob.kill, Ob.app, Bool.false_eq_true, if_false, List.length_append, List.length_take, List.length_drop, List.length_map, List.length_cons, List.length_nil, shF_len, List.nil_append, List.all_nil, Bool.not_true, List.map_nil]; omega)) (hst := by simp +decide (disch := omega) only [nrm, lk_nrm, dc_nrm, mk_nrm, mf_nrm, ti_nrm, ls_nrm, mp_nrm, nb_nrm, hset, pick_and, pick_or, ↓reduceIte, Nat.reduceAdd, wI64, wI32, wI16, wI8, wU8, List.length_map, Int.toNat_natCast, kl_nrm, List.all_nil, Bool.not_true]; rfl)
              refine anyS_cons T0_ok hP hm hN (by rfl) [2] (by rfl) rfl ?_
              refine ⟨⟨_, rfl, rfl, ?_⟩, trivial⟩
              refine g1 ?_
              refine anyS_cons T0_ok hP hm hN (by rfl) [3] (by rfl) rfl ?_
              refine ⟨⟨_, rfl, rfl, ?_⟩, trivial⟩
              refine g1 ?_
              refine anyS_cons T0_ok hP hm hN (by rfl) [9] (by rfl) rfl ?_
              refine ⟨⟨_, rfl, rfl, ?_⟩, trivial⟩
              refine g1 ?_
              refine anyS_cons T0_ok hP hm hN (by rfl) [11] (by rfl) rfl ?_
              refine ⟨⟨_, rfl, rfl, ?_⟩, trivial⟩
              refine g1 ?_
              refine anyS_cons T0_ok hP hm hN (by rfl) [12] (by rfl) rfl ?_
              refine ⟨⟨_, rfl, rfl, ?_⟩, trivial⟩
              refine g1 ?_
              refine anyS_cons T0_ok hP hm hN (by rfl) [13] (by rfl) rfl ?_
              refine ⟨⟨_, rfl, rfl, ?_⟩, trivial⟩
              refine g1 ?_
              refine anyS_done (by rfl) ?_
              refine awp_ret ?_
              refine fin_mk [2] rfl rfl ?_ (by simp only [hr, insL_rows]; exact objs_cons rfl rfl rfl (by simp [Ob.kill, Ob.app, List.map_take, List.map_drop, List.take_of_length_le, shF_len] <;> rfl) rfl (.inl rfl) objs_nil) (by decide)
              show D.tup [.agg [.val (.int .i16 (addR p xs b).1.1), .own 2], .val (.int .i64 (addR p xs b).2.1), .val (.bool (addR p xs b).2.2)] = _
              rw [hr]
              rfl
            refine ⟨⟨_, rfl, rfl, ?_⟩, trivial⟩
            refine ga1 ?_ (hpre := by refine ⟨by first | trivial | rfl | omega | (simp only [shF_len, List.length_map]; omega) | (exact ⟨by omega, by omega⟩), rfl, rfl, Nat.le_of_ble_eq_true rfl, fun h => (nomatch h), ?_, ?_⟩ <;> (simp only [Ob.kill, Ob.app, Bool.false_eq_true, if_false, List.length_append, List.length_take, List.length_drop, List.length_map, List.length_cons, List.length_nil, shF_len, List.nil_append, List.all_nil, Bool.not_true, List.map_nil]; omega)) (hst := by simp +decide (disch := omega) only [nrm, lk_nrm, dc_nrm, mk_nrm, mf_nrm, ti_nrm, ls_nrm, mp_nrm, nb_nrm, hset, pick_and, pick_or, ↓reduceIte, Nat.reduceAdd, wI64, wI32, wI16, wI8, wU8, List.length_map, Int.toNat_natCast, kl_nrm, List.all_nil, Bool.not_true]; rfl)
            refine anyS_cons T0_ok hP hm hN (by rfl) [1] (by rfl) rfl ?_
            refine ⟨⟨_, rfl, rfl, ?_⟩, trivial⟩
            refine g1 ?_
            refine anyS_cons T0_ok hP hm hN (by rfl) [2] (by rfl) rfl ?_
            refine ⟨⟨_, rfl, rfl, ?_⟩, trivial⟩
            refine g1 ?_
            refine anyS_cons T0_ok hP hm hN (by rfl) [3] (by rfl) rfl ?_
            refine ⟨⟨_, rfl, rfl, ?_⟩, trivial⟩
            refine g1 ?_
            refine anyS_cons T0_ok hP hm hN (by rfl) [9] (by rfl) rfl ?_
            refine ⟨⟨_, rfl, rfl, ?_⟩, trivial⟩
            refine g1 ?_
            refine anyS_cons T0_ok hP hm hN (by rfl) [11] (by rfl) rfl ?_
            refine ⟨⟨_, rfl, rfl, ?_⟩, trivial⟩
            refine g1 ?_
            refine anyS_cons T0_ok hP hm hN (by rfl) [12] (by rfl) rfl ?_
            refine ⟨⟨_, rfl, rfl, ?_⟩, trivial⟩
            refine g1 ?_
            refine anyS_cons T0_ok hP hm hN (by rfl) [13] (by rfl) rfl ?_
            refine ⟨⟨_, rfl, rfl, ?_⟩, trivial⟩
            refine g1 ?_
            refine anyS_done (by rfl) ?_
            refine awp_ret ?_
            refine fin_mk [2] rfl rfl ?_ (by simp only [hr, insL_rows]; exact objs_cons rfl rfl rfl (by simp [Ob.kill, Ob.app, List.map_take, List.map_drop, List.take_of_length_le, shF_len] <;> rfl) rfl (.inl rfl) objs_nil) (by decide)
            show D.tup [.agg [.val (.int .i16 (addR p xs b).1.1), .own 2], .val (.int .i64 (addR p xs b).2.1), .val (.bool (addR p xs b).2.2)] = _
            rw [hr]
            rfl
      · skip
        refine gy1 ?_
        refine gy1 ?_
        refine gy1 ?_
        cases hs1 : decide ((highG xs.length p (atX xs) (placeN (beforeB b (xs.map Prod.snd)) xs.length)) < 0)
        · skip
          refine gy1 ?_
          refine gy1 ?_
          refine gy1 ?_
          refine gy1 ?_
          refine g1 ?_
          refine awp_cond rfl (fun h63 => ?_) (fun h63 => ?_)
          · skip
            have h2 : (decide ((lowG xs.length p (atX xs) (placeN (beforeB b (xs.map Prod.snd)) xs.length)) ≥ 0) && (decide ((highG xs.length p (atX xs) (placeN (beforeB b (xs.map Prod.snd)) xs.length)) < 0) || decide ((lowG xs.length p (atX xs) (placeN (beforeB b (xs.map Prod.snd)) xs.length)) ≤ (highG xs.length p (atX xs) (placeN (beforeB b (xs.map Prod.snd)) xs.length))))) = true := by first | (rw [hs0, hs1]; exact h63) | (rw [hs0]; exact h63)
            have h3 := h2
            simp only [Bool.and_eq_true, decide_eq_true_eq] at h3
            have hlo2 : 1 ≤ (lowG xs.length p (atX xs) (placeN (beforeB b (xs.map Prod.snd)) xs.length)) ∧ (lowG xs.length p (atX xs) (placeN (beforeB b (xs.map Prod.snd)) xs.length)) ≤ ((placeN (beforeB b (xs.map Prod.snd)) xs.length) : Nat) := by
              rcases hlo with h | h
              · have := h3.1; omega
              · exact h
            have hr := addR_low p xs b hc0 hc1 h2
            refine awp_seq ?_
            refine r1 T0_ok hP hm hN ?_
            refine g1 ?_
            refine g1 ?_
            refine awp_seq ?_
            refine r1 T0_ok hP hm hN ?_
            refine g1 ?_
            refine g1 ?_
            refine g1 ?_
            refine awp_seq ?_
            refine r1 T0_ok hP hm hN ?_
            refine g1 ?_
            refine g1 ?_
            refine g1 ?_
            refine g1 ?_
            refine awp_block ?_
            refine awp_loop (fun n st => ∃ i : Nat, i ≤ (lowG xs.length p (atX xs) (placeN (beforeB b (xs.map Prod.snd)) xs.length)).toNat ∧ n = (lowG xs.length p (atX xs) (placeN (beforeB b (xs.map Prod.snd)) xs.length)).toNat - i ∧ st = ⟨[(15, .val (.int .i64 ((((placeN (beforeB b (xs.map Prod.snd)) xs.length) : Nat) : Int) - (lowG xs.length p (atX xs) (placeN (beforeB b (xs.map Prod.snd)) xs.length)) + ((i : Nat) : Int)))), (12, .val (.int .i64 ((roomR p xs (((placeN (beforeB b (xs.map Prod.snd)) xs.length) : Nat) : Int)).1 - 1))), (11, .val (.int .i64 (lowG xs.length p (atX xs) (placeN (beforeB b (xs.map Prod.snd)) xs.length)))), (10, .own 1), (7, .val (.int .i64 (((placeN (beforeB b (xs.map Prod.snd)) xs.length) : Nat) : Int))), (4, .ptr 0 0 0), (1, .rptr 8 [bkRow b] 0 0), (0, .rptr 2 [[.val (.int .i16 p), .sl 9 (pls xs)]] 0 0)], [(1, ⟨58, 9, false, pls (shF (fun x => x - 1) ((((placeN (beforeB b (xs.map Prod.snd)) xs.length) : Nat) : Int) - (lowG xs.length p (atX xs) (placeN (beforeB b (xs.map Prod.snd)) xs.length))) xs i)⟩), (0, ⟨34, 2, true, [[.val (.int .i16 0), .nil]]⟩)], 2⟩) ((lowG xs.length p (atX xs) (placeN (beforeB b (xs.map Prod.snd)) xs.length)).toNat) ⟨_, (by rw [show (((placeN (beforeB b (xs.map Prod.snd)) xs.length) : Nat) : Int) - (lowG xs.length p (atX xs) (placeN (beforeB b (xs.map Prod.snd)) xs.length)) + ((0 : Nat) : Int) = (((placeN (beforeB b (xs.map Prod.snd)) xs.length) : Nat) : Int) - (lowG xs.length p (atX xs) (placeN (beforeB b (xs.map Prod.snd)) xs.length)) by omega]; exact weak_sl (sub_cons rfl (sub_cons rfl (sub_cons rfl (sub_cons rfl (sub_cons rfl (sub_cons rfl (sub_cons rfl (sub_cons rfl (sub_nil)))))))))), 0, by omega, rfl, rfl⟩ ?_
            rintro n st ⟨i, hii, hni, rfl⟩
            have hsl := shF_len (fun x => x - 1) ((((placeN (beforeB b (xs.map Prod.snd)) xs.length) : Nat) : Int) - (lowG xs.length p (atX xs) (placeN (beforeB b (xs.map Prod.snd)) xs.length))) xs i
            refine awp_seq ?_
            refine awp_seq ?_
            refine r1 T0_ok hP hm hN ?_
            refine g1 ?_
            refine g1 ?_
            refine g1 ?_
            refine awp_cond rfl (fun h72 => ?_) (fun h72 => ?_)
            · skip
              have hlti : i < (lowG xs.length p (atX xs) (placeN (beforeB b (xs.map Prod.snd)) xs.length)).toNat := by simp only [decide_eq_true_eq] at h72; omega
              refine awp_skip ?_
              refine awp_seq ?_
              refine awp_block ?_
              refine r1 T0_ok hP hm hN ?_
              refine g1 ?_
              refine g1 ?_
              refine g1 ?_
              refine g1 ?_
              refine g1 ?_
              refine g1 ?_
              refine g1 ?_
              refine g1 ?_
              refine g1 ?_
              refine r1 T0_ok hP hm hN ?_
              refine g1 ?_
              refine g1 ?_
              refine g1 ?_
              refine ⟨(lowG xs.length p (atX xs) (placeN (beforeB b (xs.map Prod.snd)) xs.length)).toNat - (i + 1), _, by omega, (by rw [shF, pls_set, show (((placeN (beforeB b (xs.map Prod.snd)) xs.length) : Nat) : Int) - (lowG xs.length p (atX xs) (placeN (beforeB b (xs.map Prod.snd)) xs.length)) + ((i + 1 : Nat) : Int) = (((placeN (beforeB b (xs.map Prod.snd)) xs.length) : Nat) : Int) - (lowG xs.length p (atX xs) (placeN (beforeB b (xs.map Prod.snd)) xs.length)) + (i : Int) + 1 by omega]; exact weak_sl (sub_cons rfl (sub_cons rfl (sub_cons rfl (sub_cons rfl (sub_cons rfl (sub_cons rfl (sub_cons rfl (sub_cons rfl (sub_nil)))))))))), i + 1, by omega, rfl, rfl⟩
            · skip
              have hgei : ¬ i < (lowG xs.length p (atX xs) (placeN (beforeB b (xs.map Prod.snd)) xs.length)).toNat := by simp only [decide_eq_false_iff_not] at h72; omega
              have heqi : i = (lowG xs.length p (atX xs) (placeN (beforeB b (xs.map Prod.snd)) xs.length)).toNat := by omega
              subst heqi
              refine awp_exit ?_
              repeat refine thenA_exit ?_
              refine blockA_hit ?_
              refine awp_seq ?_
              refine r1 T0_ok hP hm hN ?_
              refine g1 ?_ (hst := by simp +decide (disch := omega) only [nrm, lk_nrm, dc_nrm, mk_nrm, mf_nrm, ti_nrm, ls_nrm, mp_nrm, nb_nrm, hset, pick_and, pick_or, ↓reduceIte, Nat.reduceAdd, wI64, wI32, wI16, wI8, wU8, List.length_map, Int.toNat_natCast, kl_nrm, List.all_nil, Bool.not_true]; rfl)
              refine g1 ?_
              refine g1 ?_
              refine g1 ?_
              refine ga1 ?_ (hpre := by refine ⟨by first | trivial | rfl | omega | (simp only [shF_len, List.length_map]; omega) | (exact ⟨by omega, by omega⟩), rfl, rfl, Nat.le_of_ble_eq_true rfl, fun h => (nomatch h), ?_, ?_⟩ <;> (simp only [Ob.kill, Ob.app, Bool.false_eq_true, if_false, List.length_append, List.length_take, List.length_drop, List.length_map, List.length_cons, List.length_nil, shF_len, List.nil_append, List.all_nil, Bool.not_true, List.map_nil]; omega)) (hst := by simp +decide (disch := omega) only [nrm, lk_nrm, dc_nrm, mk_nrm, mf_nrm, ti_nrm, ls_nrm, mp_nrm, nb_nrm, hset, pick_and, pick_or, ↓reduceIte, Nat.reduceAdd, wI64, wI32, wI16, wI8, wU8, List.length_map, Int.toNat_natCast, kl_nrm, List.all_nil, Bool.not_true]; rfl)
              refine g1 ?_
              refine awp_seq ?_
              refine r1 T0_ok hP hm hN ?_
              refine g1 ?_
              refine g1 ?_
              refine g1 ?_
              refine g1 ?_
              refine g1 ?_
              refine g1 ?_
              refine g1 ?_
              refine g1 ?_
              refine ga1 ?_ (hpre := by refine ⟨by first | trivial | rfl | omega | (simp only [shF_len, List.length_map]; omega) | (exact ⟨by omega, by omega⟩), rfl, rfl, Nat.le_of_ble_eq_true rfl, fun h => (nomatch h), ?_, ?_⟩ <;> (simp only [Ob.kill, Ob.app, Bool.false_eq_true, if_false, List.length_append, List.length_take, List.length_drop, List.length_map, List.length_cons, List.length_nil, shF_len, List.nil_append, List.all_nil, Bool.not_true, List.map_nil]; omega)) (hst := by simp +decide (disch := omega) only [nrm, lk_nrm, dc_nrm, mk_nrm, mf_nrm, ti_nrm, ls_nrm, mp_nrm, nb_nrm, hset, pick_and, pick_or, ↓reduceIte, Nat.reduceAdd, wI64, wI32, wI16, wI8, wU8, List.length_map, Int.toNat_natCast, kl_nrm, List.all_nil, Bool.not_true]; rfl)
              refine g1 ?_
              refine awp_seq ?_
              refine awp_any hP Pr_mix _ rfl 14 rfl ?_
              refine anyS_float T0_ok hP hm hN (by rfl) 0 rfl rfl rfl (by rfl) (by rfl) (by rfl) ?_
              refine g1 ?_
              refine anyS_float T0_ok hP hm hN (by rfl) 4 rfl rfl rfl (by rfl) (by rfl) (by rfl) ?_
              refine g1 ?_
              refine anyS_float T0_ok hP hm hN (by rfl) 5 rfl rfl rfl (by rfl) (by rfl) (by rfl) ?_
              refine g1 ?_
              refine anyS_float T0_ok hP hm hN (by rfl) 6 rfl rfl rfl (by rfl) (by rfl) (by rfl) ?_
              refine g1 ?_
              refine anyS_float T0_ok hP hm hN (by rfl) 10 rfl rfl rfl (by rfl) (by rfl) (by rfl) ?_
              refine g1 ?_
              refine anyS_cons T0_ok hP hm hN (by rfl) [1, 7] (by rfl) rfl ?_
              refine ⟨⟨_, rfl, rfl, ?_⟩, ?_⟩
              · skip
                refine g1 ?_
                refine anyS_cons T0_ok hP hm hN (by rfl) [2, 7] (by rfl) rfl ?_
                refine ⟨⟨_, rfl, rfl, ?_⟩, ?_⟩
                · skip
                  refine g1 ?_
                  refine anyS_cons T0_ok hP hm hN (by rfl) [3, 7] (by rfl) rfl ?_
                  refine ⟨⟨_, rfl, rfl, ?_⟩, ?_⟩
                  · skip
                    refine g1 ?_
                    refine anyS_cons T0_ok hP hm hN (by rfl) [7] (by rfl) rfl ?_
                    refine ⟨⟨_, rfl, rfl, ?_⟩, trivial⟩
                    refine g1 ?_
                    refine anyS_cons T0_ok hP hm hN (by rfl) [8] (by rfl) rfl ?_
                    refine ⟨⟨_, rfl, rfl, ?_⟩, trivial⟩
                    refine ga1 ?_ (hpre := by refine ⟨by first | trivial | rfl | omega | (simp only [shF_len, List.length_map]; omega) | (exact ⟨by omega, by omega⟩), rfl, rfl, Nat.le_of_ble_eq_true rfl, fun h => (nomatch h), ?_, ?_⟩ <;> (simp only [Ob.kill, Ob.app, Bool.false_eq_true, if_false, List.length_append, List.length_take, List.length_drop, List.length_map, List.length_cons, List.length_nil, shF_len, List.nil_append, List.all_nil, Bool.not_true, List.map_nil]; omega)) (hst := by simp +decide (disch := omega) only [nrm, lk_nrm, dc_nrm, mk_nrm, mf_nrm, ti_nrm, ls_nrm, mp_nrm, nb_nrm, hset, pick_and, pick_or, ↓reduceIte, Nat.reduceAdd, wI64, wI32, wI16, wI8, wU8, List.length_map, Int.toNat_natCast, kl_nrm, List.all_nil, Bool.not_true]; rfl)
                    refine anyS_cons T0_ok hP hm hN (by rfl) [9] (by rfl) rfl ?_
                    refine ⟨⟨_, rfl, rfl, ?_⟩, trivial⟩
                    refine g1 ?_
                    refine anyS_cons T0_ok hP hm hN (by rfl) [11] (by rfl) rfl ?_
                    refine ⟨⟨_, rfl, rfl, ?_⟩, trivial⟩
                    refine g1 ?_
                    refine anyS_cons T0_ok hP hm hN (by rfl) [12] (by rfl) rfl ?_
                    refine ⟨⟨_, rfl, rfl, ?_⟩, trivial⟩
                    refine g1 ?_
                    refine anyS_cons T0_ok hP hm hN (by rfl) [13] (by rfl) rfl ?_
                    refine ⟨⟨_, rfl, rfl, ?_⟩, trivial⟩
                    refine g1 ?_
                    refine anyS_done (by rfl) ?_
                    refine awp_ret ?_
                    refine fin_mk [2] rfl rfl ?_ (by simp only [hr, insL_rows]; exact objs_cons rfl rfl rfl (by simp [Ob.kill, Ob.app, List.map_take, List.map_drop, List.take_of_length_le, shF_len] <;> rfl) rfl (.inl rfl) objs_nil) (by decide)
                    show D.tup [.agg [.val (.int .i16 (addR p xs b).1.1), .own 2], .val (.int .i64 (addR p xs b).2.1), .val (.bool (addR p xs b).2.2)] = _
                    rw [hr]
                    rfl
                  refine ⟨⟨_, rfl, rfl, ?_⟩, trivial⟩
                  refine g1 ?_
                  refine anyS_cons T0_ok hP hm hN (by rfl) [3, 8] (by rfl) rfl ?_
                  refine ⟨⟨_, rfl, rfl, ?_⟩, ?_⟩
                  · skip
                    refine g1 ?_
                    refine anyS_cons T0_ok hP hm hN (by rfl) [8] (by rfl) rfl ?_
                    refine ⟨⟨_, rfl, rfl, ?_⟩, trivial⟩
                    refine ga1 ?_ (hpre := by refine ⟨by first | trivial | rfl | omega | (simp only [shF_len, List.length_map]; omega) | (exact ⟨by omega, by omega⟩), rfl, rfl, Nat.le_of_ble_eq_true rfl, fun h => (nomatch h), ?_, ?_⟩ <;> (simp only [Ob.kill, Ob.app, Bool.false_eq_true, if_false, List.length_append, List.length_take, List.length_drop, List.length_map, List.length_cons, List.length_nil, shF_len, List.nil_append, List.all_nil, Bool.not_true, List.map_nil]; omega)) (hst := by simp +decide (disch := omega) only [nrm, lk_nrm, dc_nrm, mk_nrm, mf_nrm, ti_nrm, ls_nrm, mp_nrm, nb_nrm, hset, pick_and, pick_or, ↓reduceIte, Nat.reduceAdd, wI64, wI32, wI16, wI8, wU8, List.length_map, Int.toNat_natCast, kl_nrm, List.all_nil, Bool.not_true]; rfl)
                    refine anyS_cons T0_ok hP hm hN (by rfl) [9] (by rfl) rfl ?_
                    refine ⟨⟨_, rfl, rfl, ?_⟩, trivial⟩
                    refine g1 ?_
                    refine anyS_cons T0_ok hP hm hN (by rfl) [11] (by rfl) rfl ?_
                    refine ⟨⟨_, rfl, rfl, ?_⟩, trivial⟩
                    refine g1 ?_
                    refine anyS_cons T0_ok hP hm hN (by rfl) [12] (by rfl) rfl ?_
                    refine ⟨⟨_, rfl, rfl, ?_⟩, trivial⟩
                    refine g1 ?_
                    refine anyS_cons T0_ok hP hm hN (by rfl) [13] (by rfl) rfl ?_
                    refine ⟨⟨_, rfl, rfl, ?_⟩, trivial⟩
                    refine g1 ?_
                    refine anyS_done (by rfl) ?_
                    refine awp_ret ?_
                    refine fin_mk [2] rfl rfl ?_ (by simp only [hr, insL_rows]; exact objs_cons rfl rfl rfl (by simp [Ob.kill, Ob.app, List.map_take, List.map_drop, List.take_of_length_le, shF_len] <;> rfl) rfl (.inl rfl) objs_nil) (by decide)
                    show D.tup [.agg [.val (.int .i16 (addR p xs b).1.1), .own 2], .val (.int .i64 (addR p xs b).2.1), .val (.bool (addR p xs b).2.2)] = _
                    rw [hr]
                    rfl
                  refine ⟨⟨_, rfl, rfl, ?_⟩, trivial⟩
                  refine ga1 ?_ (hpre := by refine ⟨by first | trivial | rfl | omega | (simp only [shF_len, List.length_map]; omega) | (exact ⟨by omega, by omega⟩), rfl, rfl, Nat.le_of_ble_eq_true rfl, fun h => (nomatch h), ?_, ?_⟩ <;> (simp only [Ob.kill, Ob.app, Bool.false_eq_true, if_false, List.length_append, List.length_take, List.length_drop, List.length_map, List.length_cons, List.length_nil, shF_len, List.nil_append, List.all_nil, Bool.not_true, List.map_nil]; omega)) (hst := by simp +decide (disch := omega) only [nrm, lk_nrm, dc_nrm, mk_nrm, mf_nrm, ti_nrm, ls_nrm, mp_nrm, nb_nrm, hset, pick_and, pick_or, ↓reduceIte, Nat.reduceAdd, wI64, wI32, wI16, wI8, wU8, List.length_map, Int.toNat_natCast, kl_nrm, List.all_nil, Bool.not_true]; rfl)
                  refine anyS_cons T0_ok hP hm hN (by rfl) [3] (by rfl) rfl ?_
                  refine ⟨⟨_, rfl, rfl, ?_⟩, trivial⟩
                  refine g1 ?_
                  refine anyS_cons T0_ok hP hm hN (by rfl) [9] (by rfl) rfl ?_
                  refine ⟨⟨_, rfl, rfl, ?_⟩, trivial⟩
                  refine g1 ?_
                  refine anyS_cons T0_ok hP hm hN (by rfl) [11] (by rfl) rfl ?_
                  refine ⟨⟨_, rfl, rfl, ?_⟩, trivial⟩
                  refine g1 ?_
                  refine anyS_cons T0_ok hP hm hN (by rfl) [12] (by rfl) rfl ?_
                  refine ⟨⟨_, rfl, rfl, ?_⟩, trivial⟩
                  refine g1 ?_
                  refine anyS_cons T0_ok hP hm hN (by rfl) [13] (by rfl) rfl ?_
                  refine ⟨⟨_, rfl, rfl, ?_⟩, trivial⟩
                  refine g1 ?_
                  refine anyS_done (by rfl) ?_
                  refine awp_ret ?_
                  refine fin_mk [2] rfl rfl ?_ (by simp only [hr, insL_rows]; exact objs_cons rfl rfl rfl (by simp [Ob.kill, Ob.app, List.map_take, List.map_drop, List.take_of_length_le, shF_len] <;> rfl) rfl (.inl rfl) objs_nil) (by decide)
                  show D.tup [.agg [.val (.int .i16 (addR p xs b).1.1), .own 2], .val (.int .i64 (addR p xs b).2.1), .val (.bool (addR p xs b).2.2)] = _
                  rw [hr]
                  rfl
                refine ⟨⟨_, rfl, rfl, ?_⟩, trivial⟩
                refine g1 ?_
                refine anyS_cons T0_ok hP hm hN (by rfl) [2, 8] (by rfl) rfl ?_
                refine ⟨⟨_, rfl, rfl, ?_⟩, ?_⟩
                · skip
                  refine g1 ?_
                  refine anyS_cons T0_ok hP hm hN (by rfl) [3, 8] (by rfl) rfl ?_
                  refine ⟨⟨_, rfl, rfl, ?_⟩, ?_⟩
                  · skip
                    refine g1 ?_
                    refine anyS_cons T0_ok hP hm hN (by rfl) [8] (by rfl) rfl ?_
                    refine ⟨⟨_, rfl, rfl, ?_⟩, trivial⟩
                    refine ga1 ?_ (hpre := by refine ⟨by first | trivial | rfl | omega | (simp only [shF_len, List.length_map]; omega) | (exact ⟨by omega, by omega⟩), rfl, rfl, Nat.le_of_ble_eq_true rfl, fun h => (nomatch h), ?_, ?_⟩ <;> (simp only [Ob.kill, Ob.app, Bool.false_eq_true, if_false, List.length_append, List.length_take, List.length_drop, List.length_map, List.length_cons, List.length_nil, shF_len, List.nil_append, List.all_nil, Bool.not_true, List.map_nil]; omega)) (hst := by simp +decide (disch := omega) only [nrm, lk_nrm, dc_nrm, mk_nrm, mf_nrm, ti_nrm, ls_nrm, mp_nrm, nb_nrm, hset, pick_and, pick_or, ↓reduceIte, Nat.reduceAdd, wI64, wI32, wI16, wI8, wU8, List.length_map, Int.toNat_natCast, kl_nrm, List.all_nil, Bool.not_true]; rfl)
                    refine anyS_cons T0_ok hP hm hN (by rfl) [9] (by rfl) rfl ?_
                    refine ⟨⟨_, rfl, rfl, ?_⟩, trivial⟩
                    refine g1 ?_
                    refine anyS_cons T0_ok hP hm hN (by rfl) [11] (by rfl) rfl ?_
                    refine ⟨⟨_, rfl, rfl, ?_⟩, trivial⟩
                    refine g1 ?_
                    refine anyS_cons T0_ok hP hm hN (by rfl) [12] (by rfl) rfl ?_
                    refine ⟨⟨_, rfl, rfl, ?_⟩, trivial⟩
                    refine g1 ?_
                    refine anyS_cons T0_ok hP hm hN (by rfl) [13] (by rfl) rfl ?_
                    refine ⟨⟨_, rfl, rfl, ?_⟩, trivial⟩
                    refine g1 ?_
                    refine anyS_done (by rfl) ?_
                    refine awp_ret ?_
                    refine fin_mk [2] rfl rfl ?_ (by simp only [hr, insL_rows]; exact objs_cons rfl rfl rfl (by simp [Ob.kill, Ob.app, List.map_take, List.map_drop, List.take_of_length_le, shF_len] <;> rfl) rfl (.inl rfl) objs_nil) (by decide)
                    show D.tup [.agg [.val (.int .i16 (addR p xs b).1.1), .own 2], .val (.int .i64 (addR p xs b).2.1), .val (.bool (addR p xs b).2.2)] = _
                    rw [hr]
                    rfl
                  refine ⟨⟨_, rfl, rfl, ?_⟩, trivial⟩
                  refine ga1 ?_ (hpre := by refine ⟨by first | trivial | rfl | omega | (simp only [shF_len, List.length_map]; omega) | (exact ⟨by omega, by omega⟩), rfl, rfl, Nat.le_of_ble_eq_true rfl, fun h => (nomatch h), ?_, ?_⟩ <;> (simp only [Ob.kill, Ob.app, Bool.false_eq_true, if_false, List.length_append, List.length_take, List.length_drop, List.length_map, List.length_cons, List.length_nil, shF_len, List.nil_append, List.all_nil, Bool.not_true, List.map_nil]; omega)) (hst := by simp +decide (disch := omega) only [nrm, lk_nrm, dc_nrm, mk_nrm, mf_nrm, ti_nrm, ls_nrm, mp_nrm, nb_nrm, hset, pick_and, pick_or, ↓reduceIte, Nat.reduceAdd, wI64, wI32, wI16, wI8, wU8, List.length_map, Int.toNat_natCast, kl_nrm, List.all_nil, Bool.not_true]; rfl)
                  refine anyS_cons T0_ok hP hm hN (by rfl) [3] (by rfl) rfl ?_
                  refine ⟨⟨_, rfl, rfl, ?_⟩, trivial⟩
                  refine g1 ?_
                  refine anyS_cons T0_ok hP hm hN (by rfl) [9] (by rfl) rfl ?_
                  refine ⟨⟨_, rfl, rfl, ?_⟩, trivial⟩
                  refine g1 ?_
                  refine anyS_cons T0_ok hP hm hN (by rfl) [11] (by rfl) rfl ?_
                  refine ⟨⟨_, rfl, rfl, ?_⟩, trivial⟩
                  refine g1 ?_
                  refine anyS_cons T0_ok hP hm hN (by rfl) [12] (by rfl) rfl ?_
                  refine ⟨⟨_, rfl, rfl, ?_⟩, trivial⟩
                  refine g1 ?_
                  refine anyS_cons T0_ok hP hm hN (by rfl) [13] (by rfl) rfl ?_
                  refine ⟨⟨_, rfl, rfl, ?_⟩, trivial⟩
                  refine g1 ?_
                  refine anyS_done (by rfl) ?_
                  refine awp_ret ?_
                  refine fin_mk [2] rfl rfl ?_ (by simp only [hr, insL_rows]; exact objs_cons rfl rfl rfl (by simp [Ob.kill, Ob.app, List.map_take, List.map_drop, List.take_of_length_le, shF_len] <;> rfl) rfl (.inl rfl) objs_nil) (by decide)
                  show D.tup [.agg [.val (.int .i16 (addR p xs b).1.1), .own 2], .val (.int .i64 (addR p xs b).2.1), .val (.bool (addR p xs b).2.2)] = _
                  rw [hr]
                  rfl
                refine ⟨⟨_, rfl, rfl, ?_⟩, trivial⟩
                refine ga1 ?_ (hpre := by refine ⟨by first | trivial | rfl | omega | (simp only [shF_len, List.length_map]; omega) | (exact ⟨by omega, by omega⟩), rfl, rfl, Nat.le_of_ble_eq_true rfl, fun h => (nomatch h), ?_, ?_⟩ <;> (simp only [Ob.kill, Ob.app, Bool.false_eq_true, if_false, List.length_append, List.length_take, List.length_drop, List.length_map, List.length_cons, List.length_nil, shF_len, List.nil_append, List.all_nil, Bool.not_true, List.map_nil]; omega)) (hst := by simp +decide (disch := omega) only [nrm, lk_nrm, dc_nrm, mk_nrm, mf_nrm, ti_nrm, ls_nrm, mp_nrm, nb_nrm, hset, pick_and, pick_or, ↓reduceIte, Nat.reduceAdd, wI64, wI32, wI16, wI8, wU8, List.length_map, Int.toNat_natCast, kl_nrm, List.all_nil, Bool.not_true]; rfl)
                refine anyS_cons T0_ok hP hm hN (by rfl) [2] (by rfl) rfl ?_
                refine ⟨⟨_, rfl, rfl, ?_⟩, trivial⟩
                refine g1 ?_
                refine anyS_cons T0_ok hP hm hN (by rfl) [3] (by rfl) rfl ?_
                refine ⟨⟨_, rfl, rfl, ?_⟩, trivial⟩
                refine g1 ?_
                refine anyS_cons T0_ok hP hm hN (by rfl) [9] (by rfl) rfl ?_
                refine ⟨⟨_, rfl, rfl, ?_⟩, trivial⟩
                refine g1 ?_
                refine anyS_cons T0_ok hP hm hN (by rfl) [11] (by rfl) rfl ?_
                refine ⟨⟨_, rfl, rfl, ?_⟩, trivial⟩
                refine g1 ?_
                refine anyS_cons T0_ok hP hm hN (by rfl) [12] (by rfl) rfl ?_
                refine ⟨⟨_, rfl, rfl, ?_⟩, trivial⟩
                refine g1 ?_
                refine anyS_cons T0_ok hP hm hN (by rfl) [13] (by rfl) rfl ?_
                refine ⟨⟨_, rfl, rfl, ?_⟩, trivial⟩
                refine g1 ?_
                refine anyS_done (by rfl) ?_
                refine awp_ret ?_
                refine fin_mk [2] rfl rfl ?_ (by simp only [hr, insL_rows]; exact objs_cons rfl rfl rfl (by simp [Ob.kill, Ob.app, List.map_take, List.map_drop, List.take_of_length_le, shF_len] <;> rfl) rfl (.inl rfl) objs_nil) (by decide)
                show D.tup [.agg [.val (.int .i16 (addR p xs b).1.1), .own 2], .val (.int .i64 (addR p xs b).2.1), .val (.bool (addR p xs b).2.2)] = _
                rw [hr]
                rfl
              refine ⟨⟨_, rfl, rfl, ?_⟩, trivial⟩
              refine g1 ?_
              refine anyS_cons T0_ok hP hm hN (by rfl) [1, 8] (by rfl) rfl ?_
              refine ⟨⟨_, rfl, rfl, ?_⟩, ?_⟩
              · skip
                refine g1 ?_
                refine anyS_cons T0_ok hP hm hN (by rfl) [2, 8] (by rfl) rfl ?_
                refine ⟨⟨_, rfl, rfl, ?_⟩, ?_⟩
                · skip
                  refine g1 ?_
                  refine anyS_cons T0_ok hP hm hN (by rfl) [3, 8] (by rfl) rfl ?_
                  refine ⟨⟨_, rfl, rfl, ?_⟩, ?_⟩
                  · skip
                    refine g1 ?_
                    refine anyS_cons T0_ok hP hm hN (by rfl) [8] (by rfl) rfl ?_
                    refine ⟨⟨_, rfl, rfl, ?_⟩, trivial⟩
                    refine ga1 ?_ (hpre := by refine ⟨by first | trivial | rfl | omega | (simp only [shF_len, List.length_map]; omega) | (exact ⟨by omega, by omega⟩), rfl, rfl, Nat.le_of_ble_eq_true rfl, fun h => (nomatch h), ?_, ?_⟩ <;> (simp only [Ob.kill, Ob.app, Bool.false_eq_true, if_false, List.length_append, List.length_take, List.length_drop, List.length_map, List.length_cons, List.length_nil, shF_len, List.nil_append, List.all_nil, Bool.not_true, List.map_nil]; omega)) (hst := by simp +decide (disch := omega) only [nrm, lk_nrm, dc_nrm, mk_nrm, mf_nrm, ti_nrm, ls_nrm, mp_nrm, nb_nrm, hset, pick_and, pick_or, ↓reduceIte, Nat.reduceAdd, wI64, wI32, wI16, wI8, wU8, List.length_map, Int.toNat_natCast, kl_nrm, List.all_nil, Bool.not_true]; rfl)
                    refine anyS_cons T0_ok hP hm hN (by rfl) [9] (by rfl) rfl ?_
                    refine ⟨⟨_, rfl, rfl, ?_⟩, trivial⟩
                    refine g1 ?_
                    refine anyS_cons T0_ok hP hm hN (by rfl) [11] (by rfl) rfl ?_
                    refine ⟨⟨_, rfl, rfl, ?_⟩, trivial⟩
                    refine g1 ?_
                    refine anyS_cons T0_ok hP hm hN (by rfl) [12] (by rfl) rfl ?_
                    refine ⟨⟨_, rfl, rfl, ?_⟩, trivial⟩
                    refine g1 ?_
                    refine anyS_cons T0_ok hP hm hN (by rfl) [13] (by rfl) rfl ?_
                    refine ⟨⟨_, rfl, rfl, ?_⟩, trivial⟩
                    refine g1 ?_
                    refine anyS_done (by rfl) ?_
                    refine awp_ret ?_
                    refine fin_mk [2] rfl rfl ?_ (by simp only [hr, insL_rows]; exact objs_cons rfl rfl rfl (by simp [Ob.kill, Ob.app, List.map_take, List.map_drop, List.take_of_length_le, shF_len] <;> rfl) rfl (.inl rfl) objs_nil) (by decide)
                    show D.tup [.agg [.val (.int .i16 (addR p xs b).1.1), .own 2], .val (.int .i64 (addR p xs b).2.1), .val (.bool (addR p xs b).2.2)] = _
                    rw [hr]
                    rfl
                  refine ⟨⟨_, rfl, rfl, ?_⟩, trivial⟩
                  refine ga1 ?_ (hpre := by refine ⟨by first | trivial | rfl | omega | (simp only [shF_len, List.length_map]; omega) | (exact ⟨by omega, by omega⟩), rfl, rfl, Nat.le_of_ble_eq_true rfl, fun h => (nomatch h), ?_, ?_⟩ <;> (simp only [Ob.kill, Ob.app, Bool.false_eq_true, if_false, List.length_append, List.length_take, List.length_drop, List.length_map, List.length_cons, List.length_nil, shF_len, List.nil_append, List.all_nil, Bool.not_true, List.map_nil]; omega)) (hst := by simp +decide (disch := omega) only [nrm, lk_nrm, dc_nrm, mk_nrm, mf_nrm, ti_nrm, ls_nrm, mp_nrm, nb_nrm, hset, pick_and, pick_or, ↓reduceIte, Nat.reduceAdd, wI64, wI32, wI16, wI8, wU8, List.length_map, Int.toNat_natCast, kl_nrm, List.all_nil, Bool.not_true]; rfl)
                  refine anyS_cons T0_ok hP hm hN (by rfl) [3] (by rfl) rfl ?_
                  refine ⟨⟨_, rfl, rfl, ?_⟩, trivial⟩
                  refine g1 ?_
                  refine anyS_cons T0_ok hP hm hN (by rfl) [9] (by rfl) rfl ?_
                  refine ⟨⟨_, rfl, rfl, ?_⟩, trivial⟩
                  refine g1 ?_
                  refine anyS_cons T0_ok hP hm hN (by rfl) [11] (by rfl) rfl ?_
                  refine ⟨⟨_, rfl, rfl, ?_⟩, trivial⟩
                  refine g1 ?_
                  refine anyS_cons T0_ok hP hm hN (by rfl) [12] (by rfl) rfl ?_
                  refine ⟨⟨_, rfl, rfl, ?_⟩, trivial⟩
                  refine g1 ?_
                  refine anyS_cons T0_ok hP hm hN (by rfl) [13] (by rfl) rfl ?_
                  refine ⟨⟨_, rfl, rfl, ?_⟩, trivial⟩
                  refine g1 ?_
                  refine anyS_done (by rfl) ?_
                  refine awp_ret ?_
                  refine fin_mk [2] rfl rfl ?_ (by simp only [hr, insL_rows]; exact objs_cons rfl rfl rfl (by simp [Ob.kill, Ob.app, List.map_take, List.map_drop, List.take_of_length_le, shF_len] <;> rfl) rfl (.inl rfl) objs_nil) (by decide)
                  show D.tup [.agg [.val (.int .i16 (addR p xs b).1.1), .own 2], .val (.int .i64 (addR p xs b).2.1), .val (.bool (addR p xs b).2.2)] = _
                  rw [hr]
                  rfl
                refine ⟨⟨_, rfl, rfl, ?_⟩, trivial⟩
                refine ga1 ?_ (hpre := by refine ⟨by first | trivial | rfl | omega | (simp only [shF_len, List.length_map]; omega) | (exact ⟨by omega, by omega⟩), rfl, rfl, Nat.le_of_ble_eq_true rfl, fun h => (nomatch h), ?_, ?_⟩ <;> (simp only [Ob.kill, Ob.app, Bool.false_eq_true, if_false, List.length_append, List.length_take, List.length_drop, List.length_map, List.length_cons, List.length_nil, shF_len, List.nil_append, List.all_nil, Bool.not_true, List.map_nil]; omega)) (hst := by simp +decide (disch := omega) only [nrm, lk_nrm, dc_nrm, mk_nrm, mf_nrm, ti_nrm, ls_nrm, mp_nrm, nb_nrm, hset, pick_and, pick_or, ↓reduceIte, Nat.reduceAdd, wI64, wI32, wI16, wI8, wU8, List.length_map, Int.toNat_natCast, kl_nrm, List.all_nil, Bool.not_true]; rfl)
                refine anyS_cons T0_ok hP hm hN (by rfl) [2] (by rfl) rfl ?_
                refine ⟨⟨_, rfl, rfl, ?_⟩, trivial⟩
                refine g1 ?_
                refine anyS_cons T0_ok hP hm hN (by rfl) [3] (by rfl) rfl ?_
                refine ⟨⟨_, rfl, rfl, ?_⟩, trivial⟩
                refine g1 ?_
                refine anyS_cons T0_ok hP hm hN (by rfl) [9] (by rfl) rfl ?_
                refine ⟨⟨_, rfl, rfl, ?_⟩, trivial⟩
                refine g1 ?_
                refine anyS_cons T0_ok hP hm hN (by rfl) [11] (by rfl) rfl ?_
                refine ⟨⟨_, rfl, rfl, ?_⟩, trivial⟩
                refine g1 ?_
                refine anyS_cons T0_ok hP hm hN (by rfl) [12] (by rfl) rfl ?_
                refine ⟨⟨_, rfl, rfl, ?_⟩, trivial⟩
                refine g1 ?_
                refine anyS_cons T0_ok hP hm hN (by rfl) [13] (by rfl) rfl ?_
                refine ⟨⟨_, rfl, rfl, ?_⟩, trivial⟩
                refine g1 ?_
                refine anyS_done (by rfl) ?_
                refine awp_ret ?_
                refine fin_mk [2] rfl rfl ?_ (by simp only [hr, insL_rows]; exact objs_cons rfl rfl rfl (by simp [Ob.kill, Ob.app, List.map_take, List.map_drop, List.take_of_length_le, shF_len] <;> rfl) rfl (.inl rfl) objs_nil) (by decide)
                show D.tup [.agg [.val (.int .i16 (addR p xs b).1.1), .own 2], .val (.int .i64 (addR p xs b).2.1), .val (.bool (addR p xs b).2.2)] = _
                rw [hr]
                rfl
              refine ⟨⟨_, rfl, rfl, ?_⟩, trivial⟩
              refine ga1 ?_ (hpre := by refine ⟨by first | trivial | rfl | omega | (simp only [shF_len, List.length_map]; omega) | (exact ⟨by omega, by omega⟩), rfl, rfl, Nat.le_of_ble_eq_true rfl, fun h => (nomatch h), ?_, ?_⟩ <;> (simp only [Ob.kill, Ob.app, Bool.false_eq_true, if_false, List.length_append, List.length_take, List.length_drop, List.length_map, List.length_cons, List.length_nil, shF_len, List.nil_append, List.all_nil, Bool.not_true, List.map_nil]; omega)) (hst := by simp +decide (disch := omega) only [nrm, lk_nrm, dc_nrm, mk_nrm, mf_nrm, ti_nrm, ls_nrm, mp_nrm, nb_nrm, hset, pick_and, pick_or, ↓reduceIte, Nat.reduceAdd, wI64, wI32, wI16, wI8, wU8, List.length_map, Int.toNat_natCast, kl_nrm, List.all_nil, Bool.not_true]; rfl)
              refine anyS_cons T0_ok hP hm hN (by rfl) [1] (by rfl) rfl ?_
              refine ⟨⟨_, rfl, rfl, ?_⟩, trivial⟩
              refine g1 ?_
              refine anyS_cons T0_ok hP hm hN (by rfl) [2] (by rfl) rfl ?_
              refine ⟨⟨_, rfl, rfl, ?_⟩, trivial⟩
              refine g1 ?_
              refine anyS_cons T0_ok hP hm hN (by rfl) [3] (by rfl) rfl ?_
              refine ⟨⟨_, rfl, rfl, ?_⟩, trivial⟩
              refine g1 ?_
              refine anyS_cons T0_ok hP hm hN (by rfl) [9] (by rfl) rfl ?_
              refine ⟨⟨_, rfl, rfl, ?_⟩, trivial⟩
              refine g1 ?_
              refine anyS_cons T0_ok hP hm hN (by rfl) [11] (by rfl) rfl ?_
              refine ⟨⟨_, rfl, rfl, ?_⟩, trivial⟩
              refine g1 ?_
              refine anyS_cons T0_ok hP hm hN (by rfl) [12] (by rfl) rfl ?_
              refine ⟨⟨_, rfl, rfl, ?_⟩, trivial⟩
              refine g1 ?_
              refine anyS_cons T0_ok hP hm hN (by rfl) [13] (by rfl) rfl ?_
              refine ⟨⟨_, rfl, rfl, ?_⟩, trivial⟩
              refine g1 ?_
              refine anyS_done (by rfl) ?_
              refine awp_ret ?_
              refine fin_mk [2] rfl rfl ?_ (by simp only [hr, insL_rows]; exact objs_cons rfl rfl rfl (by simp [Ob.kill, Ob.app, List.map_take, List.map_drop, List.take_of_length_le, shF_len] <;> rfl) rfl (.inl rfl) objs_nil) (by decide)
              show D.tup [.agg [.val (.int .i16 (addR p xs b).1.1), .own 2], .val (.int .i64 (addR p xs b).2.1), .val (.bool (addR p xs b).2.2)] = _
              rw [hr]
              rfl
          · skip
            have h2 : (decide ((lowG xs.length p (atX xs) (placeN (beforeB b (xs.map Prod.snd)) xs.length)) ≥ 0) && (decide ((highG xs.length p (atX xs) (placeN (beforeB b (xs.map Prod.snd)) xs.length)) < 0) || decide ((lowG xs.length p (atX xs) (placeN (beforeB b (xs.map Prod.snd)) xs.length)) ≤ (highG xs.length p (atX xs) (placeN (beforeB b (xs.map Prod.snd)) xs.length))))) = false := by first | (rw [hs0, hs1]; exact h63) | (rw [hs0]; exact h63)
            have h3 := h2
            have h4 := hc1
            simp only [Bool.and_eq_false_iff, Bool.or_eq_false_iff, decide_eq_false_iff_not] at h3 h4
            have hhi2 : 1 ≤ (highG xs.length p (atX xs) (placeN (beforeB b (xs.map Prod.snd)) xs.length)) ∧ (highG xs.length p (atX xs) (placeN (beforeB b (xs.map Prod.snd)) xs.length)) ≤ (xs.length : Int) - ((placeN (beforeB b (xs.map Prod.snd)) xs.length) : Nat) := by
              rcases hhi with h | h
              · exfalso; omega
              · exact h
            have hr := addR_high p xs b hc0 hc1 h2
            refine awp_seq ?_
            refine r1 T0_ok hP hm hN ?_
            refine g1 ?_
            refine g1 ?_
            refine awp_seq ?_
            refine r1 T0_ok hP hm hN ?_
            refine g1 ?_
            refine g1 ?_
            refine awp_seq ?_
            refine r1 T0_ok hP hm hN ?_
            refine g1 ?_
            refine g1 ?_
            refine awp_block ?_
            refine awp_loop (fun n st => ∃ i : Nat, i ≤ (highG xs.length p (atX xs) (placeN (beforeB b (xs.map Prod.snd)) xs.length)).toNat ∧ n = (highG xs.length p (atX xs) (placeN (beforeB b (xs.map Prod.snd)) xs.length)).toNat - i ∧ st = ⟨[(16, .val (.int .i64 ((((placeN (beforeB b (xs.map Prod.snd)) xs.length) : Nat) : Int) + ((i : Nat) : Int)))), (14, .val (.int .i64 (highG xs.length p (atX xs) (placeN (beforeB b (xs.map Prod.snd)) xs.length)))), (12, .val (.int .i64 (roomR p xs (((placeN (beforeB b (xs.map Prod.snd)) xs.length) : Nat) : Int)).1)), (11, .val (.int .i64 (highG xs.length p (atX xs) (placeN (beforeB b (xs.map Prod.snd)) xs.length)))), (10, .own 1), (7, .val (.int .i64 (((placeN (beforeB b (xs.map Prod.snd)) xs.length) : Nat) : Int))), (4, .ptr 0 0 0), (1, .rptr 8 [bkRow b] 0 0), (0, .rptr 2 [[.val (.int .i16 p), .sl 9 (pls xs)]] 0 0)], [(1, ⟨58, 9, false, pls (shF (fun x => x + 1) ((((placeN (beforeB b (xs.map Prod.snd)) xs.length) : Nat) : Int)) xs i)⟩), (0, ⟨34, 2, true, [[.val (.int .i16 0), .nil]]⟩)], 2⟩) ((highG xs.length p (atX xs) (placeN (beforeB b (xs.map Prod.snd)) xs.length)).toNat) ⟨_, (by rw [show (((placeN (beforeB b (xs.map Prod.snd)) xs.length) : Nat) : Int) + ((0 : Nat) : Int) = (((placeN (beforeB b (xs.map Prod.snd)) xs.length) : Nat) : Int) by omega]; exact weak_sl (sub_cons rfl (sub_cons rfl (sub_cons rfl (sub_cons rfl (sub_cons rfl (sub_cons rfl (sub_cons rfl (sub_cons rfl (sub_cons rfl (sub_nil))))))))))), 0, by omega, rfl, rfl⟩ ?_
            rintro n st ⟨i, hii, hni, rfl⟩
            have hsl := shF_len (fun x => x + 1) ((((placeN (beforeB b (xs.map Prod.snd)) xs.length) : Nat) : Int)) xs i
            refine awp_seq ?_
            refine awp_seq ?_
            refine r1 T0_ok hP hm hN ?_
            refine g1 ?_
            refine g1 ?_
            refine g1 ?_
            refine g1 ?_
            refine g1 ?_
            refine awp_cond rfl (fun h90 => ?_) (fun h90 => ?_)
            · skip
              have hlti : i < (highG xs.length p (atX xs) (placeN (beforeB b (xs.map Prod.snd)) xs.length)).toNat := by simp only [decide_eq_true_eq] at h90; omega
              refine awp_skip ?_
              refine awp_seq ?_
              refine awp_block ?_
              refine r1 T0_ok hP hm hN ?_
              refine g1 ?_
              refine g1 ?_
              refine g1 ?_
              refine g1 ?_
              refine g1 ?_
              refine g1 ?_
              refine g1 ?_
              refine g1 ?_
              refine g1 ?_
              refine r1 T0_ok hP hm hN ?_
              refine g1 ?_
              refine g1 ?_
              refine g1 ?_
              refine ⟨(highG xs.length p (atX xs) (placeN (beforeB b (xs.map Prod.snd)) xs.length)).toNat - (i + 1), _, by omega, (by rw [shF, pls_set, show (((placeN (beforeB b (xs.map Prod.snd)) xs.length) : Nat) : Int) + ((i + 1 : Nat) : Int) = (((placeN (beforeB b (xs.map Prod.snd)) xs.length) : Nat) : Int) + (i : Int) + 1 by omega]; exact weak_sl (sub_cons rfl (sub_cons rfl (sub_cons rfl (sub_cons rfl (sub_cons rfl (sub_cons rfl (sub_cons rfl (sub_cons rfl (sub_cons rfl (sub_nil))))))))))), i + 1, by omega, rfl, rfl⟩
            · skip
              have hgei : ¬ i < (highG xs.length p (atX xs) (placeN (beforeB b (xs.map Prod.snd)) xs.length)).toNat := by simp only [decide_eq_false_iff_not] at h90; omega
              have heqi : i = (highG xs.length p (atX xs) (placeN (beforeB b (xs.map Prod.snd)) xs.length)).toNat := by omega
              subst heqi
              refine awp_exit ?_
              repeat refine thenA_exit ?_
              refine blockA_hit ?_
              refine awp_seq ?_
              refine r1 T0_ok hP hm hN ?_
              refine g1 ?_ (hst := by simp +decide (disch := omega) only [nrm, lk_nrm, dc_nrm, mk_nrm, mf_nrm, ti_nrm, ls_nrm, mp_nrm, nb_nrm, hset, pick_and, pick_or, ↓reduceIte, Nat.reduceAdd, wI64, wI32, wI16, wI8, wU8, List.length_map, Int.toNat_natCast, kl_nrm, List.all_nil, Bool.not_true]; rfl)
              refine g1 ?_
              refine g1 ?_
              refine g1 ?_
              refine ga1 ?_ (hpre := by refine ⟨by first | trivial | rfl | omega | (simp only [shF_len, List.length_map]; omega) | (exact ⟨by omega, by omega⟩), rfl, rfl, Nat.le_of_ble_eq_true rfl, fun h => (nomatch h), ?_, ?_⟩ <;> (simp only [Ob.kill, Ob.app, Bool.false_eq_true, if_false, List.length_append, List.length_take, List.length_drop, List.length_map, List.length_cons, List.length_nil, shF_len, List.nil_append, List.all_nil, Bool.not_true, List.map_nil]; omega)) (hst := by simp +decide (disch := omega) only [nrm, lk_nrm, dc_nrm, mk_nrm, mf_nrm, ti_nrm, ls_nrm, mp_nrm, nb_nrm, hset, pick_and, pick_or, ↓reduceIte, Nat.reduceAdd, wI64, wI32, wI16, wI8, wU8, List.length_map, Int.toNat_natCast, kl_nrm, List.all_nil, Bool.not_true]; rfl)
              refine g1 ?_
              refine awp_seq ?_
              refine r1 T0_ok hP hm hN ?_
              refine g1 ?_
              refine g1 ?_
              refine g1 ?_
              refine g1 ?_
              refine g1 ?_
              refine g1 ?_
              refine g1 ?_
              refine g1 ?_
              refine ga1 ?_ (hpre := by refine ⟨by first | trivial | rfl | omega | (simp only [shF_len, List.length_map]; omega) | (exact ⟨by omega, by omega⟩), rfl, rfl, Nat.le_of_ble_eq_true rfl, fun h => (nomatch h), ?_, ?_⟩ <;> (simp only [Ob.kill, Ob.app, Bool.false_eq_true, if_false, List.length_append, List.length_take, List.length_drop, List.length_map, List.length_cons, List.length_nil, shF_len, List.nil_append, List.all_nil, Bool.not_true, List.map_nil]; omega)) (hst := by simp +decide (disch := omega) only [nrm, lk_nrm, dc_nrm, mk_nrm, mf_nrm, ti_nrm, ls_nrm, mp_nrm, nb_nrm, hset, pick_and, pick_or, ↓reduceIte, Nat.reduceAdd, wI64, wI32, wI16, wI8, wU8, List.length_map, Int.toNat_natCast, kl_nrm, List.all_nil, Bool.not_true]; rfl)
              refine g1 ?_
              refine awp_seq ?_
              refine awp_any hP Pr_mix _ rfl 14 rfl ?_
              refine anyS_float T0_ok hP hm hN (by rfl) 0 rfl rfl rfl (by rfl) (by rfl) (by rfl) ?_
              refine g1 ?_
              refine anyS_float T0_ok hP hm hN (by rfl) 4 rfl rfl rfl (by rfl) (by rfl) (by rfl) ?_
              refine g1 ?_
              refine anyS_float T0_ok hP hm hN (by rfl) 5 rfl rfl rfl (by rfl) (by rfl) (by rfl) ?_
              refine g1 ?_
              refine anyS_float T0_ok hP hm hN (by rfl) 6 rfl rfl rfl (by rfl) (by rfl) (by rfl) ?_
              refine g1 ?_
              refine anyS_float T0_ok hP hm hN (by rfl) 10 rfl rfl rfl (by rfl) (by rfl) (by rfl) ?_
              refine g1 ?_
              refine anyS_cons T0_ok hP hm hN (by rfl) [1, 7] (by rfl) rfl ?_
              refine ⟨⟨_, rfl, rfl, ?_⟩, ?_⟩
              · skip
                refine g1 ?_
                refine anyS_cons T0_ok hP hm hN (by rfl) [2, 7] (by rfl) rfl ?_
                refine ⟨⟨_, rfl, rfl, ?_⟩, ?_⟩
                · skip
                  refine g1 ?_
                  refine anyS_cons T0_ok hP hm hN (by rfl) [3, 7] (by rfl) rfl ?_
                  refine ⟨⟨_, rfl, rfl, ?_⟩, ?_⟩
                  · skip
                    refine g1 ?_
                    refine anyS_cons T0_ok hP hm hN (by rfl) [7] (by rfl) rfl ?_
                    refine ⟨⟨_, rfl, rfl, ?_⟩, trivial⟩
                    refine g1 ?_
                    refine anyS_cons T0_ok hP hm hN (by rfl) [8] (by rfl) rfl ?_
                    refine ⟨⟨_, rfl, rfl, ?_⟩, trivial⟩
                    refine ga1 ?_ (hpre := by refine ⟨by first | trivial | rfl | omega | (simp only [shF_len, List.length_map]; omega) | (exact ⟨by omega, by omega⟩), rfl, rfl, Nat.le_of_ble_eq_true rfl, fun h => (nomatch h), ?_, ?_⟩ <;> (simp only [Ob.kill, Ob.app, Bool.false_eq_true, if_false, List.length_append, List.length_take, List.length_drop, List.length_map, List.length_cons, List.length_nil, shF_len, List.nil_append, List.all_nil, Bool.not_true, List.map_nil]; omega)) (hst := by simp +decide (disch := omega) only [nrm, lk_nrm, dc_nrm, mk_nrm, mf_nrm, ti_nrm, ls_nrm, mp_nrm, nb_nrm, hset, pick_and, pick_or, ↓reduceIte, Nat.reduceAdd, wI64, wI32, wI16, wI8, wU8, List.length_map, Int.toNat_natCast, kl_nrm, List.all_nil, Bool.not_true]; rfl)
                    refine anyS_cons T0_ok hP hm hN (by rfl) [9] (by rfl) rfl ?_
                    refine ⟨⟨_, rfl, rfl, ?_⟩, trivial⟩
                    refine g1 ?_
                    refine anyS_cons T0_ok hP hm hN (by rfl) [11] (by rfl) rfl ?_
                    refine ⟨⟨_, rfl, rfl, ?_⟩, trivial⟩
                    refine g1 ?_
                    refine anyS_cons T0_ok hP hm hN (by rfl) [12] (by rfl) rfl ?_
                    refine ⟨⟨_, rfl, rfl, ?_⟩, trivial⟩
                    refine g1 ?_
                    refine anyS_cons T0_ok hP hm hN (by rfl) [13] (by rfl) rfl ?_
                    refine ⟨⟨_, rfl, rfl, ?_⟩, trivial⟩
                    refine g1 ?_
                    refine anyS_done (by rfl) ?_
                    refine awp_ret ?_
                    refine fin_mk [2] rfl rfl ?_ (by simp only [hr, insL_rows]; exact objs_cons rfl rfl rfl (by simp [Ob.kill, Ob.app, List.map_take, List.map_drop, List.take_of_length_le, shF_len] <;> rfl) rfl (.inl rfl) objs_nil) (by decide)
                    show D.tup [.agg [.val (.int .i16 (addR p xs b).1.1), .own 2], .val (.int .i64 (addR p xs b).2.1), .val (.bool (addR p xs b).2.2)] = _
                    rw [hr]
                    rfl
                  refine ⟨⟨_, rfl, rfl, ?_⟩, trivial⟩
                  refine g1 ?_
                  refine anyS_cons T0_ok hP hm hN (by rfl) [3, 8] (by rfl) rfl ?_
                  refine ⟨⟨_, rfl, rfl, ?_⟩, ?_⟩
                  · skip
                    refine g1 ?_
                    refine anyS_cons T0_ok hP hm hN (by rfl) [8] (by rfl) rfl ?_
                    refine ⟨⟨_, rfl, rfl, ?_⟩, trivial⟩
                    refine ga1 ?_ (hpre := by refine ⟨by first | trivial | rfl | omega | (simp only [shF_len, List.length_map]; omega) | (exact ⟨by omega, by omega⟩), rfl, rfl, Nat.le_of_ble_eq_true rfl, fun h => (nomatch h), ?_, ?_⟩ <;> (simp only [Ob.kill, Ob.app, Bool.false_eq_true, if_false, List.length_append, List.length_take, List.length_drop, List.length_map, List.length_cons, List.length_nil, shF_len, List.nil_append, List.all_nil, Bool.not_true, List.map_nil]; omega)) (hst := by simp +decide (disch := omega) only [nrm, lk_nrm, dc_nrm, mk_nrm, mf_nrm, ti_nrm, ls_nrm, mp_nrm, nb_nrm, hset, pick_and, pick_or, ↓reduceIte, Nat.reduceAdd, wI64, wI32, wI16, wI8, wU8, List.length_map, Int.toNat_natCast, kl_nrm, List.all_nil, Bool.not_true]; rfl)
                    refine anyS_cons T0_ok hP hm hN (by rfl) [9] (by rfl) rfl ?_
                    refine ⟨⟨_, rfl, rfl, ?_⟩, trivial⟩
                    refine g1 ?_
                    refine anyS_cons T0_ok hP hm hN (by rfl) [11] (by rfl) rfl ?_
                    refine ⟨⟨_, rfl, rfl, ?_⟩, trivial⟩
                    refine g1 ?_
                    refine anyS_cons T0_ok hP hm hN (by rfl) [12] (by rfl) rfl ?_
                    refine ⟨⟨_, rfl, rfl, ?_⟩, trivial⟩
                    refine g1 ?_
                    refine anyS_cons T0_ok hP hm hN (by rfl) [13] (by rfl) rfl ?_
                    refine ⟨⟨_, rfl, rfl, ?_⟩, trivial⟩
                    refine g1 ?_
                    refine anyS_done (by rfl) ?_
                    refine awp_ret ?_
                    refine fin_mk [2] rfl rfl ?_ (by simp only [hr, insL_rows]; exact objs_cons rfl rfl rfl (by simp [Ob.kill, Ob.app, List.map_take, List.map_drop, List.take_of_length_le, shF_len] <;> rfl) rfl (.inl rfl) objs_nil) (by decide)
                    show D.tup [.agg [.val (.int .i16 (addR p xs b).1.1), .own 2], .val (.int .i64 (addR p xs b).2.1), .val (.bool (addR p xs b).2.2)] = _
                    rw [hr]
                    rfl
                  refine ⟨⟨_, rfl, rfl, ?_⟩, trivial⟩
                  refine ga1 ?_ (hpre := by refine ⟨by first | trivial | rfl | omega | (simp only [shF_len, List.length_map]; omega) | (exact ⟨by omega, by omega⟩), rfl, rfl, Nat.le_of_ble_eq_true rfl, fun h => (nomatch h), ?_, ?_⟩ <;> (simp only [Ob.kill, Ob.app, Bool.false_eq_true, if_false, List.length_append, List.length_take, List.length_drop, List.length_map, List.length_cons, List.length_nil, shF_len, List.nil_append, List.all_nil, Bool.not_true, List.map_nil]; omega)) (hst := by simp +decide (disch := omega) only [nrm, lk_nrm, dc_nrm, mk_nrm, mf_nrm, ti_nrm, ls_nrm, mp_nrm, nb_nrm, hset, pick_and, pick_or, ↓reduceIte, Nat.reduceAdd, wI64, wI32, wI16, wI8, wU8, List.length_map, Int.toNat_natCast, kl_nrm, List.all_nil, Bool.not_true]; rfl)
                  refine anyS_cons T0_ok hP hm hN (by rfl) [3] (by rfl) rfl ?_
                  refine ⟨⟨_, rfl, rfl, ?_⟩, trivial⟩
                  refine g1 ?_
                  refine anyS_cons T0_ok hP hm hN (by rfl) [9] (by rfl) rfl ?_
                  refine ⟨⟨_, rfl, rfl, ?_⟩, trivial⟩
                  refine g1 ?_
                  refine anyS_cons T0_ok hP hm hN (by rfl) [11] (by rfl) rfl ?_
                  refine ⟨⟨_, rfl, rfl, ?_⟩, trivial⟩
                  refine g1 ?_
                  refine anyS_cons T0_ok hP hm hN (by rfl) [12] (by rfl) rfl ?_
                  refine ⟨⟨_, rfl, rfl, ?_⟩, trivial⟩
                  refine g1 ?_
                  refine anyS_cons T0_ok hP hm hN (by rfl) [13] (by rfl) rfl ?_
                  refine ⟨⟨_, rfl, rfl, ?_⟩, trivial⟩
                  refine g1 ?_
                  refine anyS_done (by rfl) ?_
                  refine awp_ret ?_
                  refine fin_mk [2] rfl rfl ?_ (by simp only [hr, insL_rows]; exact objs_cons rfl rfl rfl (by simp [Ob.kill, Ob.app, List.map_take, List.map_drop, List.take_of_length_le, shF_len] <;> rfl) rfl (.inl rfl) objs_nil) (by decide)
                  show D.tup [.agg [.val (.int .i16 (addR p xs b).1.1), .own 2], .val (.int .i64 (addR p xs b).2.1), .val (.bool (addR p xs b).2.2)] = _
                  rw [hr]
                  rfl
                refine ⟨⟨_, rfl, rfl, ?_⟩, trivial⟩
                refine g1 ?_
                refine anyS_cons T0_ok hP hm hN (by rfl) [2, 8] (by rfl) rfl ?_
                refine ⟨⟨_, rfl, rfl, ?_⟩, ?_⟩
                · skip
                  refine g1 ?_
                  refine anyS_cons T0_ok hP hm hN (by rfl) [3, 8] (by rfl) rfl ?_
                  refine ⟨⟨_, rfl, rfl, ?_⟩, ?_⟩
                  · skip
                    refine g1 ?_
                    refine anyS_cons T0_ok hP hm hN (by rfl) [8] (by rfl) rfl ?_
                    refine ⟨⟨_, rfl, rfl, ?_⟩, trivial⟩
                    refine ga1 ?_ (hpre := by refine ⟨by first | trivial | rfl | omega | (simp only [shF_len, List.length_map]; omega) | (exact ⟨by omega, by omega⟩), rfl, rfl, Nat.le_of_ble_eq_true rfl, fun h => (nomatch h), ?_, ?_⟩ <;> (simp only [Ob.kill, Ob.app, Bool.false_eq_true, if_false, List.length_append, List.length_take, List.length_drop, List.length_map, List.length_cons, List.length_nil, shF_len, List.nil_append, List.all_nil, Bool.not_true, List.map_nil]; omega)) (hst := by simp +decide (disch := omega) only [nrm, lk_nrm, dc_nrm, mk_nrm, mf_nrm, ti_nrm, ls_nrm, mp_nrm, nb_nrm, hset, pick_and, pick_or, ↓reduceIte, Nat.reduceAdd, wI64, wI32, wI16, wI8, wU8, List.length_map, Int.toNat_natCast, kl_nrm, List.all_nil, Bool.not_true]; rfl)
                    refine anyS_cons T0_ok hP hm hN (by rfl) [9] (by rfl) rfl ?_
                    refine ⟨⟨_, rfl, rfl, ?_⟩, trivial⟩
                    refine g1 ?_
                    refine anyS_cons T0_ok hP hm hN (by rfl) [11] (by rfl) rfl ?_
                    refine ⟨⟨_, rfl, rfl, ?_⟩, trivial⟩
                    refine g1 ?_
                    refine anyS_cons T0_ok hP hm hN (by rfl) [12] (by rfl) rfl ?_
                    refine ⟨⟨_, rfl, rfl, ?_⟩, trivial⟩
                    refine g1 ?_
                    refine anyS_cons T0_ok hP hm hN (by rfl) [13] (by rfl) rfl ?_
                    refine ⟨⟨_, rfl, rfl, ?_⟩, trivial⟩
                    refine g1 ?_
                    refine anyS_done (by rfl) ?_
                    refine awp_ret ?_
                    refine fin_mk [2] rfl rfl ?_ (by simp only [hr, insL_rows]; exact objs_cons rfl rfl rfl (by simp [Ob.kill, Ob.app, List.map_take, List.map_drop, List.take_of_length_le, shF_len] <;> rfl) rfl (.inl rfl) objs_nil) (by decide)
                    show D.tup [.agg [.val (.int .i16 (addR p xs b).1.1), .own 2], .val (.int .i64 (addR p xs b).2.1), .val (.bool (addR p xs b).2.2)] = _
                    rw [hr]
                    rfl
                  refine ⟨⟨_, rfl, rfl, ?_⟩, trivial⟩
                  refine ga1 ?_ (hpre := by refine ⟨by first | trivial | rfl | omega | (simp only [shF_len, List.length_map]; omega) | (exact ⟨by omega, by omega⟩), rfl, rfl, Nat.le_of_ble_eq_true rfl, fun h => (nomatch h), ?_, ?_⟩ <;> (simp only [Ob.kill, Ob.app, Bool.false_eq_true, if_false, List.length_append, List.length_take, List.length_drop, List.length_map, List.length_cons, List.length_nil, shF_len, List.nil_append, List.all_nil, Bool.not_true, List.map_nil]; omega)) (hst := by simp +decide (disch := omega) only [nrm, lk_nrm, dc_nrm, mk_nrm, mf_nrm, ti_nrm, ls_nrm, mp_nrm, nb_nrm, hset, pick_and, pick_or, ↓reduceIte, Nat.reduceAdd, wI64, wI32, wI16, wI8, wU8, List.length_map, Int.toNat_natCast, kl_nrm, List.all_nil, Bool.not_true]; rfl)
                  refine anyS_cons T0_ok hP hm hN (by rfl) [3] (by rfl) rfl ?_
                  refine ⟨⟨_, rfl, rfl, ?_⟩, trivial⟩
                  refine g1 ?_
                  refine anyS_cons T0_ok hP hm hN (by rfl) [9] (by rfl) rfl ?_
                  refine ⟨⟨_, rfl, rfl, ?_⟩, trivial⟩
                  refine g1 ?_
                  refine anyS_cons T0_ok hP hm hN (by rfl) [11] (by rfl) rfl ?_
                  refine ⟨⟨_, rfl, rfl, ?_⟩, trivial⟩
                  refine g1 ?_
                  refine anyS_cons T0_ok hP hm hN (by rfl) [12] (by rfl) rfl ?_
                  refine ⟨⟨_, rfl, rfl, ?_⟩, trivial⟩
                  refine g1 ?_
                  refine anyS_cons T0_ok hP hm hN (by rfl) [13] (by rfl) rfl ?_
                  refine ⟨⟨_, rfl, rfl, ?_⟩, trivial⟩
                  refine g1 ?_
                  refine anyS_done (by rfl) ?_
                  refine awp_ret ?_
                  refine fin_mk [2] rfl rfl ?_ (by simp only [hr, insL_rows]; exact objs_cons rfl rfl rfl (by simp [Ob.kill, Ob.app, List.map_take, List.map_drop, List.take_of_length_le, shF_len] <;> rfl) rfl (.inl rfl) objs_nil) (by decide)
                  show D.tup [.agg [.val (.int .i16 (addR p xs b).1.1), .own 2], .val (.int .i64 (addR p xs b).2.1), .val (.bool (addR p xs b).2.2)] = _
                  rw [hr]
                  rfl
                refine ⟨⟨_, rfl, rfl, ?_⟩, trivial⟩
                refine ga1 ?_ (hpre := by refine ⟨by first | trivial | rfl | omega | (simp only [shF_len, List.length_map]; omega) | (exact ⟨by omega, by omega⟩), rfl, rfl, Nat.le_of_ble_eq_true rfl, fun h => (nomatch h), ?_, ?_⟩ <;> (simp only [Ob.kill, Ob.app, Bool.false_eq_true, if_false, List.length_append, List.length_take, List.length_drop, List.length_map, List.length_cons, List.length_nil, shF_len, List.nil_append, List.all_nil, Bool.not_true, List.map_nil]; omega)) (hst := by simp +decide (disch := omega) only [nrm, lk_nrm, dc_nrm, mk_nrm, mf_nrm, ti_nrm, ls_nrm, mp_nrm, nb_nrm, hset, pick_and, pick_or, ↓reduceIte, Nat.reduceAdd, wI64, wI32, wI16, wI8, wU8, List.length_map, Int.toNat_natCast, kl_nrm, List.all_nil, Bool.not_true]; rfl)
                refine anyS_cons T0_ok hP hm hN (by rfl) [2] (by rfl) rfl ?_
                refine ⟨⟨_, rfl, rfl, ?_⟩, trivial⟩
                refine g1 ?_
                refine anyS_cons T0_ok hP hm hN (by rfl) [3] (by rfl) rfl ?_
                refine ⟨⟨_, rfl, rfl, ?_⟩, trivial⟩
                refine g1 ?_
                refine anyS_cons T0_ok hP hm hN (by rfl) [9] (by rfl) rfl ?_
                refine ⟨⟨_, rfl, rfl, ?_⟩, trivial⟩
                refine g1 ?_
                refine anyS_cons T0_ok hP hm hN (by rfl) [11] (by rfl) rfl ?_
                refine ⟨⟨_, rfl, rfl, ?_⟩, trivial⟩
                refine g1 ?_
                refine anyS_cons T0_ok hP hm hN (by rfl) [12] (by rfl) rfl ?_
                refine ⟨⟨_, rfl, rfl, ?_⟩, trivial⟩
                refine g1 ?_
                refine anyS_cons T0_ok hP hm hN (by rfl) [13] (by rfl) rfl ?_
                refine ⟨⟨_, rfl, rfl, ?_⟩, trivial⟩
                refine g1 ?_
                refine anyS_done (by rfl) ?_
                refine awp_ret ?_
                refine fin_mk [2] rfl rfl ?_ (by simp only [hr, insL_rows]; exact objs_cons rfl rfl rfl (by simp [Ob.kill, Ob.app, List.map_take, List.map_drop, List.take_of_length_le, shF_len] <;> rfl) rfl (.inl rfl) objs_nil) (by decide)
                show D.tup [.agg [.val (.int .i16 (addR p xs b).1.1), .own 2], .val (.int .i64 (addR p xs b).2.1), .val (.bool (addR p xs b).2.2)] = _
                rw [hr]
                rfl
              refine ⟨⟨_, rfl, rfl, ?_⟩, trivial⟩
              refine g1 ?_
              refine anyS_cons T0_ok hP hm hN (by rfl) [1, 8] (by rfl) rfl ?_
              refine ⟨⟨_, rfl, rfl, ?_⟩, ?_⟩
              · skip
                refine g1 ?_
                refine anyS_cons T0_ok hP hm hN (by rfl) [2, 8] (by rfl) rfl ?_
                refine ⟨⟨_, rfl, rfl, ?_⟩, ?_⟩
                · skip
                  refine g1 ?_
                  refine anyS_cons T0_ok hP hm hN (by rfl) [3, 8] (by rfl) rfl ?_
                  refine ⟨⟨_, rfl, rfl, ?_⟩, ?_⟩
                  · skip
                    refine g1 ?_
                    refine anyS_cons T0_ok hP hm hN (by rfl) [8] (by rfl) rfl ?_
                    refine ⟨⟨_, rfl, rfl, ?_⟩, trivial⟩
                    refine ga1 ?_ (hpre := by refine ⟨by first | trivial | rfl | omega | (simp only [shF_len, List.length_map]; omega) | (exact ⟨by omega, by omega⟩), rfl, rfl, Nat.le_of_ble_eq_true rfl, fun h => (nomatch h), ?_, ?_⟩ <;> (simp only [Ob.kill, Ob.app, Bool.false_eq_true, if_false, List.length_append, List.length_take, List.length_drop, List.length_map, List.length_cons, List.length_nil, shF_len, List.nil_append, List.all_nil, Bool.not_true, List.map_nil]; omega)) (hst := by simp +decide (disch := omega) only [nrm, lk_nrm, dc_nrm, mk_nrm, mf_nrm, ti_nrm, ls_nrm, mp_nrm, nb_nrm, hset, pick_and, pick_or, ↓reduceIte, Nat.reduceAdd, wI64, wI32, wI16, wI8, wU8, List.length_map, Int.toNat_natCast, kl_nrm, List.all_nil, Bool.not_true]; rfl)
                    refine anyS_cons T0_ok hP hm hN (by rfl) [9] (by rfl) rfl ?_
                    refine ⟨⟨_, rfl, rfl, ?_⟩, trivial⟩
                    refine g1 ?_
                    refine anyS_cons T0_ok hP hm hN (by rfl) [11] (by rfl) rfl ?_
                    refine ⟨⟨_, rfl, rfl, ?_⟩, trivial⟩
                    refine g1 ?_
                    refine anyS_cons T0_ok hP hm hN (by rfl) [12] (by rfl) rfl ?_
                    refine ⟨⟨_, rfl, rfl, ?_⟩, trivial⟩
                    refine g1 ?_
                    refine anyS_cons T0_ok hP hm hN (by rfl) [13] (by rfl) rfl ?_
                    refine ⟨⟨_, rfl, rfl, ?_⟩, trivial⟩
                    refine g1 ?_
                    refine anyS_done (by rfl) ?_
                    refine awp_ret ?_
                    refine fin_mk [2] rfl rfl ?_ (by simp only [hr, insL_rows]; exact objs_cons rfl rfl rfl (by simp [Ob.kill, Ob.app, List.map_take, List.map_drop, List.take_of_length_le, shF_len] <;> rfl) rfl (.inl rfl) objs_nil) (by decide)
                    show D.tup [.agg [.val (.int .i16 (addR p xs b).1.1), .own 2], .val (.int .i64 (addR p xs b).2.1), .val (.bool (addR p xs b).2.2)] = _
                    rw [hr]
                    rfl
                  refine ⟨⟨_, rfl, rfl, ?_⟩, trivial⟩
                  refine ga1 ?_ (hpre := by refine ⟨by first | trivial | rfl | omega | (simp only [shF_len, List.length_map]; omega) | (exact ⟨by omega, by omega⟩), rfl, rfl, Nat.le_of_ble_eq_true rfl, fun h => (nomatch h), ?_, ?_⟩ <;> (simp only [Ob.kill, Ob.app, Bool.false_eq_true, if_false, List.length_append, List.length_take, List.length_drop, List.length_map, List.length_cons, List.length_nil, shF_len, List.nil_append, List.all_nil, Bool.not_true, List.map_nil]; omega)) (hst := by simp +decide (disch := omega) only [nrm, lk_nrm, dc_nrm, mk_nrm, mf_nrm, ti_nrm, ls_nrm, mp_nrm, nb_nrm, hset, pick_and, pick_or, ↓reduceIte, Nat.reduceAdd, wI64, wI32, wI16, wI8, wU8, List.length_map, Int.toNat_natCast, kl_nrm, List.all_nil, Bool.not_true]; rfl)
                  refine anyS_cons T0_ok hP hm hN (by rfl) [3] (by rfl) rfl ?_
                  refine ⟨⟨_, rfl, rfl, ?_⟩, trivial⟩
                  refine g1 ?_
                  refine anyS_cons T0_ok hP hm hN (by rfl) [9] (by rfl) rfl ?_
                  refine ⟨⟨_, rfl, rfl, ?_⟩, trivial⟩
                  refine g1 ?_
                  refine anyS_cons T0_ok hP hm hN (by rfl) [11] (by rfl) rfl ?_
                  refine ⟨⟨_, rfl, rfl, ?_⟩, trivial⟩
                  refine g1 ?_
                  refine anyS_cons T0_ok hP hm hN (by rfl) [12] (by rfl) rfl ?_
                  refine ⟨⟨_, rfl, rfl, ?_⟩, trivial⟩
                  refine g1 ?_
                  refine anyS_cons T0_ok hP hm hN (by rfl) [13] (by rfl) rfl ?_
                  refine ⟨⟨_, rfl, rfl, ?_⟩, trivial⟩
                  refine g1 ?_
                  refine anyS_done (by rfl) ?_
                  refine awp_ret ?_
                  refine fin_mk [2] rfl rfl ?_ (by simp only [hr, insL_rows]; exact objs_cons rfl rfl rfl (by simp [Ob.kill, Ob.app, List.map_take, List.map_drop, List.take_of_length_le, shF_len] <;> rfl) rfl (.inl rfl) objs_nil) (by decide)
                  show D.tup [.agg [.val (.int .i16 (addR p xs b).1.1), .own 2], .val (.int .i64 (addR p xs b).2.1), .val (.bool (addR p xs b).2.2)] = _
                  rw [hr]
                  rfl
                refine ⟨⟨_, rfl, rfl, ?_⟩, trivial⟩
                refine ga1 ?_ (hpre := by refine ⟨by first | trivial | rfl | omega | (simp only [shF_len, List.length_map]; omega) | (exact ⟨by omega, by omega⟩), rfl, rfl, Nat.le_of_ble_eq_true rfl, fun h => (nomatch h), ?_, ?_⟩ <;> (simp only [Ob.kill, Ob.app, Bool.false_eq_true, if_false, List.length_append, List.length_take, List.length_drop, List.length_map, List.length_cons, List.length_nil, shF_len, List.nil_append, List.all_nil, Bool.not_true, List.map_nil]; omega)) (hst := by simp +decide (disch := omega) only [nrm, lk_nrm, dc_nrm, mk_nrm, mf_nrm, ti_nrm, ls_nrm, mp_nrm, nb_nrm, hset, pick_and, pick_or, ↓reduceIte, Nat.reduceAdd, wI64, wI32, wI16, wI8, wU8, List.length_map, Int.toNat_natCast, kl_nrm, List.all_nil, Bool.not_true]; rfl)
                refine anyS_cons T0_ok hP hm hN (by rfl) [2] (by rfl) rfl ?_
                refine ⟨⟨_, rfl, rfl, ?_⟩, trivial⟩
                refine g1 ?_
                refine anyS_cons T0_ok hP hm hN (by rfl) [3] (by rfl) rfl ?_
                refine ⟨⟨_, rfl, rfl, ?_⟩, trivial⟩
                refine g1 ?_
                refine anyS_cons T0_ok hP hm hN (by rfl) [9] (by rfl) rfl ?_
                refine ⟨⟨_, rfl, rfl, ?_⟩, trivial⟩
                refine g1 ?_
                refine anyS_cons T0_ok hP hm hN (by rfl) [11] (by rfl) rfl ?_
                refine ⟨⟨_, rfl, rfl, ?_⟩, trivial⟩
                refine g1 ?_
                refine anyS_cons T0_ok hP hm hN (by rfl) [12] (by rfl) rfl ?_
                refine ⟨⟨_, rfl, rfl, ?_⟩, trivial⟩
                refine g1 ?_
                refine anyS_cons T0_ok hP hm hN (by rfl) [13] (by rfl) rfl ?_
                refine ⟨⟨_, rfl, rfl, ?_⟩, trivial⟩
                refine g1 ?_
                refine anyS_done (by rfl) ?_
                refine awp_ret ?_
                refine fin_mk [2] rfl rfl ?_ (by simp only [hr, insL_rows]; exact objs_cons rfl rfl rfl (by simp [Ob.kill, Ob.app, List.map_take, List.map_drop, List.take_of_length_le, shF_len] <;> rfl) rfl (.inl rfl) objs_nil) (by decide)
                show D.tup [.agg [.val (.int .i16 (addR p xs b).1.1), .own 2], .val (.int .i64 (addR p xs b).2.1), .val (.bool (addR p xs b).2.2)] = _
                rw [hr]
                rfl
              refine ⟨⟨_, rfl, rfl, ?_⟩, trivial⟩
              refine ga1 ?_ (hpre := by refine ⟨by first | trivial | rfl | omega | (simp only [shF_len, List.length_map]; omega) | (exact ⟨by omega, by omega⟩), rfl, rfl, Nat.le_of_ble_eq_true rfl, fun h => (nomatch h), ?_, ?_⟩ <;> (simp only [Ob.kill, Ob.app, Bool.false_eq_true, if_false, List.length_append, List.length_take, List.length_drop, List.length_map, List.length_cons, List.length_nil, shF_len, List.nil_append, List.all_nil, Bool.not_true, List.map_nil]; omega)) (hst := by simp +decide (disch := omega) only [nrm, lk_nrm, dc_nrm, mk_nrm, mf_nrm, ti_nrm, ls_nrm, mp_nrm, nb_nrm, hset, pick_and, pick_or, ↓reduceIte, Nat.reduceAdd, wI64, wI32, wI16, wI8, wU8, List.length_map, Int.toNat_natCast, kl_nrm, List.all_nil, Bool.not_true]; rfl)
              refine anyS_cons T0_ok hP hm hN (by rfl) [1] (by rfl) rfl ?_
              refine ⟨⟨_, rfl, rfl, ?_⟩, trivial⟩
              refine g1 ?_
              refine anyS_cons T0_ok hP hm hN (by rfl) [2] (by rfl) rfl ?_
              refine ⟨⟨_, rfl, rfl, ?_⟩, trivial⟩
              refine g1 ?_
              refine anyS_cons T0_ok hP hm hN (by rfl) [3] (by rfl) rfl ?_
              refine ⟨⟨_, rfl, rfl, ?_⟩, trivial⟩
              refine g1 ?_
              refine anyS_cons T0_ok hP hm hN (by rfl) [9] (by rfl) rfl ?_
              refine ⟨⟨_, rfl, rfl, ?_⟩, trivial⟩
              refine g1 ?_
              refine anyS_cons T0_ok hP hm hN (by rfl) [11] (by rfl) rfl ?_
              refine ⟨⟨_, rfl, rfl, ?_⟩, trivial⟩
              refine g1 ?_
              refine anyS_cons T0_ok hP hm hN (by rfl) [12] (by rfl) rfl ?_
              refine ⟨⟨_, rfl, rfl, ?_⟩, trivial⟩
              refine g1 ?_
              refine anyS_cons T0_ok hP hm hN (by rfl) [13] (by rfl) rfl ?_
              refine ⟨⟨_, rfl, rfl, ?_⟩, trivial⟩
              refine g1 ?_
              refine anyS_done (by rfl) ?_
              refine awp_ret ?_
              refine fin_mk [2] rfl rfl ?_ (by simp only [hr, insL_rows]; exact objs_cons rfl rfl rfl (by simp [Ob.kill, Ob.app, List.map_take, List.map_drop, List.take_of_length_le, shF_len] <;> rfl) rfl (.inl rfl) objs_nil) (by decide)
              show D.tup [.agg [.val (.int .i16 (addR p xs b).1.1), .own 2], .val (.int .i64 (addR p xs b).2.1), .val (.bool (addR p xs b).2.2)] = _
              rw [hr]
              rfl
        · skip
          first | refine areg_not rfl rfl (by simp +decide (disch := omega) only [nrm, lk_nrm, dc_nrm, mk_nrm, mf_nrm, ti_nrm, ls_nrm, mp_nrm, nb_nrm, hset, pick_and, pick_or, ↓reduceIte, Nat.reduceAdd, wI64, wI32, wI16, wI8, wU8, List.length_map, Int.toNat_natCast]; rfl) ?_ | refine areg_notU rfl rfl (by simp +decide (disch := omega) only [nrm, lk_nrm, dc_nrm, mk_nrm, mf_nrm, ti_nrm, ls_nrm, mp_nrm, nb_nrm, hset, pick_and, pick_or, ↓reduceIte, Nat.reduceAdd, wI64, wI32, wI16, wI8, wU8, List.length_map, Int.toNat_natCast]; rfl) ?_
          first | refine areg_not rfl rfl (by simp +decide (disch := omega) only [nrm, lk_nrm, dc_nrm, mk_nrm, mf_nrm, ti_nrm, ls_nrm, mp_nrm, nb_nrm, hset, pick_and, pick_or, ↓reduceIte, Nat.reduceAdd, wI64, wI32, wI16, wI8, wU8, List.length_map, Int.toNat_natCast]; rfl) ?_ | refine areg_notU rfl rfl (by simp +decide (disch := omega) only [nrm, lk_nrm, dc_nrm, mk_nrm, mf_nrm, ti_nrm, ls_nrm, mp_nrm, nb_nrm, hset, pick_and, pick_or, ↓reduceIte, Nat.reduceAdd, wI64, wI32, wI16, wI8, wU8, List.length_map, Int.toNat_natCast]; rfl) ?_
          first | refine areg_not rfl rfl (by simp +decide (disch := omega) only [nrm, lk_nrm, dc_nrm, mk_nrm, mf_nrm, ti_nrm, ls_nrm, mp_nrm, nb_nrm, hset, pick_and, pick_or, ↓reduceIte, Nat.reduceAdd, wI64, wI32, wI16, wI8, wU8, List.length_map, Int.toNat_natCast]; rfl) ?_ | refine areg_notU rfl rfl (by simp +decide (disch := omega) only [nrm, lk_nrm, dc_nrm, mk_nrm, mf_nrm, ti_nrm, ls_nrm, mp_nrm, nb_nrm, hset, pick_and, pick_or, ↓reduceIte, Nat.reduceAdd, wI64, wI32, wI16, wI8, wU8, List.length_map, Int.toNat_natCast]; rfl) ?_
          refine gy1 ?_
          refine g1 ?_
          refine awp_cond rfl (fun h63 => ?_) (fun h63 => ?_)
          · skip
            have h2 : (decide ((lowG xs.length p (atX xs) (placeN (beforeB b (xs.map Prod.snd)) xs.length)) ≥ 0) && (decide ((highG xs.length p (atX xs) (placeN (beforeB b (xs.map Prod.snd)) xs.length)) < 0) || decide ((lowG xs.length p (atX xs) (placeN (beforeB b (xs.map Prod.snd)) xs.length)) ≤ (highG xs.length p (atX xs) (placeN (beforeB b (xs.map Prod.snd)) xs.length))))) = true := by first | (rw [hs0, hs1]; exact h63) | (rw [hs0]; exact h63)
            have h3 := h2
            simp only [Bool.and_eq_true, decide_eq_true_eq] at h3
            have hlo2 : 1 ≤ (lowG xs.length p (atX xs) (placeN (beforeB b (xs.map Prod.snd)) xs.length)) ∧ (lowG xs.length p (atX xs) (placeN (beforeB b (xs.map Prod.snd)) xs.length)) ≤ ((placeN (beforeB b (xs.map Prod.snd)) xs.length) : Nat) := by
              rcases hlo with h | h
              · have := h3.1; omega
              · exact h
            have hr := addR_low p xs b hc0 hc1 h2
            refine awp_seq ?_
            refine r1 T0_ok hP hm hN ?_
            refine g1 ?_
            refine g1 ?_
            refine awp_seq ?_
            refine r1 T0_ok hP hm hN ?_
            refine g1 ?_
            refine g1 ?_
            refine g1 ?_
            refine awp_seq ?_
            refine r1 T0_ok hP hm hN ?_
            refine g1 ?_
            refine g1 ?_
            refine g1 ?_
            refine g1 ?_
            refine awp_block ?_
            refine awp_loop (fun n st => ∃ i : Nat, i ≤ (lowG xs.length p (atX xs) (placeN (beforeB b (xs.map Prod.snd)) xs.length)).toNat ∧ n = (lowG xs.length p (atX xs) (placeN (beforeB b (xs.map Prod.snd)) xs.length)).toNat - i ∧ st = ⟨[(15, .val (.int .i64 ((((placeN (beforeB b (xs.map Prod.snd)) xs.length) : Nat) : Int) - (lowG xs.length p (atX xs) (placeN (beforeB b (xs.map Prod.snd)) xs.length)) + ((i : Nat) : Int)))), (12, .val (.int .i64 ((roomR p xs (((placeN (beforeB b (xs.map Prod.snd)) xs.length) : Nat) : Int)).1 - 1))), (11, .val (.int .i64 (lowG xs.length p (atX xs) (placeN (beforeB b (xs.map Prod.snd)) xs.length)))), (10, .own 1), (7, .val (.int .i64 (((placeN (beforeB b (xs.map Prod.snd)) xs.length) : Nat) : Int))), (4, .ptr 0 0 0), (1, .rptr 8 [bkRow b] 0 0), (0, .rptr 2 [[.val (.int .i16 p), .sl 9 (pls xs)]] 0 0)], [(1, ⟨58, 9, false, pls (shF (fun x => x - 1) ((((placeN (beforeB b (xs.map Prod.snd)) xs.length) : Nat) : Int) - (lowG xs.length p (atX xs) (placeN (beforeB b (xs.map Prod.snd)) xs.length))) xs i)⟩), (0, ⟨34, 2, true, [[.val (.int .i16 0), .nil]]⟩)], 2⟩) ((lowG xs.length p (atX xs) (placeN (beforeB b (xs.map Prod.snd)) xs.length)).toNat) ⟨_, (by rw [show (((placeN (beforeB b (xs.map Prod.snd)) xs.length) : Nat) : Int) - (lowG xs.length p (atX xs) (placeN (beforeB b (xs.map Prod.snd)) xs.length)) + ((0 : Nat) : Int) = (((placeN (beforeB b (xs.map Prod.snd)) xs.length) : Nat) : Int) - (lowG xs.length p (atX xs) (placeN (beforeB b (xs.map Prod.snd)) xs.length)) by omega]; exact weak_sl (sub_cons rfl (sub_cons rfl (sub_cons rfl (sub_cons rfl (sub_cons rfl (sub_cons rfl (sub_cons rfl (sub_cons rfl (sub_nil)))))))))), 0, by omega, rfl, rfl⟩ ?_
            rintro n st ⟨i, hii, hni, rfl⟩
            have hsl := shF_len (fun x => x - 1) ((((placeN (beforeB b (xs.map Prod.snd)) xs.length) : Nat) : Int) - (lowG xs.length p (atX xs) (placeN (beforeB b (xs.map Prod.snd)) xs.length))) xs i
            refine awp_seq ?_
            refine awp_seq ?_
            refine r1 T0_ok hP hm hN ?_
            refine g1 ?_
            refine g1 ?_
            refine g1 ?_
            refine awp_cond rfl (fun h72 => ?_) (fun h72 => ?_)
            · skip
              have hlti : i < (lowG xs.length p (atX xs) (placeN (beforeB b (xs.map Prod.snd)) xs.length)).toNat := by simp only [decide_eq_true_eq] at h72; omega
              refine awp_skip ?_
              refine awp_seq ?_
              refine awp_block ?_
              refine r1 T0_ok hP hm hN ?_
              refine g1 ?_
              refine g1 ?_
              refine g1 ?_
              refine g1 ?_
              refine g1 ?_
              refine g1 ?_
              refine g1 ?_
              refine g1 ?_
              refine g1 ?_
              refine r1 T0_ok hP hm hN ?_
              refine g1 ?_
              refine g1 ?_
              refine g1 ?_
              refine ⟨(lowG xs.length p (atX xs) (placeN (beforeB b (xs.map Prod.snd)) xs.length)).toNat - (i + 1), _, by omega, (by rw [shF, pls_set, show (((placeN (beforeB b (xs.map Prod.snd)) xs.length) : Nat) : Int) - (lowG xs.length p (atX xs) (placeN (beforeB b (xs.map Prod.snd)) xs.length)) + ((i + 1 : Nat) : Int) = (((placeN (beforeB b (xs.map Prod.snd)) xs.length) : Nat) : Int) - (lowG xs.length p (atX xs) (placeN (beforeB b (xs.map Prod.snd)) xs.length)) + (i : Int) + 1 by omega]; exact weak_sl (sub_cons rfl (sub_cons rfl (sub_cons rfl (sub_cons rfl (sub_cons rfl (sub_cons rfl (sub_cons rfl (sub_cons rfl (sub_nil)))))))))), i + 1, by omega, rfl, rfl⟩
            · skip
              have hgei : ¬ i < (lowG xs.length p (atX xs) (placeN (beforeB b (xs.map Prod.snd)) xs.length)).toNat := by simp only [decide_eq_false_iff_not] at h72; omega
              have heqi : i = (lowG xs.length p (atX xs) (placeN (beforeB b (xs.map Prod.snd)) xs.length)).toNat := by omega
              subst heqi
              refine awp_exit ?_
              repeat refine thenA_exit ?_
              refine blockA_hit ?_
              refine awp_seq ?_
              refine r1 T0_ok hP hm hN ?_
              refine g1 ?_ (hst := by simp +decide (disch := omega) only [nrm, lk_nrm, dc_nrm, mk_nrm, mf_nrm, ti_nrm, ls_nrm, mp_nrm, nb_nrm, hset, pick_and, pick_or, ↓reduceIte, Nat.reduceAdd, wI64, wI32, wI16, wI8, wU8, List.length_map, Int.toNat_natCast, kl_nrm, List.all_nil, Bool.not_true]; rfl)
              refine g1 ?_
              refine g1 ?_
              refine g1 ?_
              refine ga1 ?_ (hpre := by refine ⟨by first | trivial | rfl | omega | (simp only [shF_len, List.length_map]; omega) | (exact ⟨by omega, by omega⟩), rfl, rfl, Nat.le_of_ble_eq_true rfl, fun h => (nomatch h), ?_, ?_⟩ <;> (simp only [Ob.kill, Ob.app, Bool.false_eq_true, if_false, List.length_append, List.length_take, List.length_drop, List.length_map, List.length_cons, List.length_nil, shF_len, List.nil_append, List.all_nil, Bool.not_true, List.map_nil]; omega)) (hst := by simp +decide (disch := omega) only [nrm, lk_nrm, dc_nrm, mk_nrm, mf_nrm, ti_nrm, ls_nrm, mp_nrm, nb_nrm, hset, pick_and, pick_or, ↓reduceIte, Nat.reduceAdd, wI64, wI32, wI16, wI8, wU8, List.length_map, Int.toNat_natCast, kl_nrm, List.all_nil, Bool.not_true]; rfl)
              refine g1 ?_
              refine awp_seq ?_
              refine r1 T0_ok hP hm hN ?_
              refine g1 ?_
              refine g1 ?_
              refine g1 ?_
              refine g1 ?_
              refine g1 ?_
              refine g1 ?_
              refine g1 ?_
              refine g1 ?_
              refine ga1 ?_ (hpre := by refine ⟨by first | trivial | rfl | omega | (simp only [shF_len, List.length_map]; omega) | (exact ⟨by omega, by omega⟩), rfl, rfl, Nat.le_of_ble_eq_true rfl, fun h => (nomatch h), ?_, ?_⟩ <;> (simp only [Ob.kill, Ob.app, Bool.false_eq_true, if_false, List.length_append, List.length_take, List.length_drop, List.length_map, List.length_cons, List.length_nil, shF_len, List.nil_append, List.all_nil, Bool.not_true, List.map_nil]; omega)) (hst := by simp +decide (disch := omega) only [nrm, lk_nrm, dc_nrm, mk_nrm, mf_nrm, ti_nrm, ls_nrm, mp_nrm, nb_nrm, hset, pick_and, pick_or, ↓reduceIte, Nat.reduceAdd, wI64, wI32, wI16, wI8, wU8, List.length_map, Int.toNat_natCast, kl_nrm, List.all_nil, Bool.not_true]; rfl)
              refine g1 ?_
              refine awp_seq ?_
              refine awp_any hP Pr_mix _ rfl 14 rfl ?_
              refine anyS_float T0_ok hP hm hN (by rfl) 0 rfl rfl rfl (by rfl) (by rfl) (by rfl) ?_
              refine g1 ?_
              refine anyS_float T0_ok hP hm hN (by rfl) 4 rfl rfl rfl (by rfl) (by rfl) (by rfl) ?_
              refine g1 ?_
              refine anyS_float T0_ok hP hm hN (by rfl) 5 rfl rfl rfl (by rfl) (by rfl) (by rfl) ?_
              refine g1 ?_
              refine anyS_float T0_ok hP hm hN (by rfl) 6 rfl rfl rfl (by rfl) (by rfl) (by rfl) ?_
              refine g1 ?_
              refine anyS_float T0_ok hP hm hN (by rfl) 10 rfl rfl rfl (by rfl) (by rfl) (by rfl) ?_
              refine g1 ?_
              refine anyS_cons T0_ok hP hm hN (by rfl) [1, 7] (by rfl) rfl ?_
              refine ⟨⟨_, rfl, rfl, ?_⟩, ?_⟩
              · skip
                refine g1 ?_
                refine anyS_cons T0_ok hP hm hN (by rfl) [2, 7] (by rfl) rfl ?_
                refine ⟨⟨_, rfl, rfl, ?_⟩, ?_⟩
                · skip
                  refine g1 ?_
                  refine anyS_cons T0_ok hP hm hN (by rfl) [3, 7] (by rfl) rfl ?_
                  refine ⟨⟨_, rfl, rfl, ?_⟩, ?_⟩
                  · skip
                    refine g1 ?_
                    refine anyS_cons T0_ok hP hm hN (by rfl) [7] (by rfl) rfl ?_
                    refine ⟨⟨_, rfl, rfl, ?_⟩, trivial⟩
                    refine g1 ?_
                    refine anyS_cons T0_ok hP hm hN (by rfl) [8] (by rfl) rfl ?_
                    refine ⟨⟨_, rfl, rfl, ?_⟩, trivial⟩
                    refine ga1 ?_ (hpre := by refine ⟨by first | trivial | rfl | omega | (simp only [shF_len, List.length_map]; omega) | (exact ⟨by omega, by omega⟩), rfl, rfl, Nat.le_of_ble_eq_true rfl, fun h => (nomatch h), ?_, ?_⟩ <;> (simp only [Ob.kill, Ob.app, Bool.false_eq_true, if_false, List.length_append, List.length_take, List.length_drop, List.length_map, List.length_cons, List.length_nil, shF_len, List.nil_append, List.all_nil, Bool.not_true, List.map_nil]; omega)) (hst := by simp +decide (disch := omega) only [nrm, lk_nrm, dc_nrm, mk_nrm, mf_nrm, ti_nrm, ls_nrm, mp_nrm, nb_nrm, hset, pick_and, pick_or, ↓reduceIte, Nat.reduceAdd, wI64, wI32, wI16, wI8, wU8, List.length_map, Int.toNat_natCast, kl_nrm, List.all_nil, Bool.not_true]; rfl)
                    refine anyS_cons T0_ok hP hm hN (by rfl) [9] (by rfl) rfl ?_
                    refine ⟨⟨_, rfl, rfl, ?_⟩, trivial⟩
                    refine g1 ?_
                    refine anyS_cons T0_ok hP hm hN (by rfl) [11] (by rfl) rfl ?_
                    refine ⟨⟨_, rfl, rfl, ?_⟩, trivial⟩
                    refine g1 ?_
                    refine anyS_cons T0_ok hP hm hN (by rfl) [12] (by rfl) rfl ?_
                    refine ⟨⟨_, rfl, rfl, ?_⟩, trivial⟩
                    refine g1 ?_
                    refine anyS_cons T0_ok hP hm hN (by rfl) [13] (by rfl) rfl ?_
                    refine ⟨⟨_, rfl, rfl, ?_⟩, trivial⟩
                    refine g1 ?_
                    refine anyS_done (by rfl) ?_
                    refine awp_ret ?_
                    refine fin_mk [2] rfl rfl ?_ (by simp only [hr, insL_rows]; exact objs_cons rfl rfl rfl (by simp [Ob.kill, Ob.app, List.map_take, List.map_drop, List.take_of_length_le, shF_len] <;> rfl) rfl (.inl rfl) objs_nil) (by decide)
                    show D.tup [.agg [.val (.int .i16 (addR p xs b).1.1), .own 2], .val (.int .i64 (addR p xs b).2.1), .val (.bool (addR p xs b).2.2)] = _
                    rw [hr]
                    rfl
                  refine ⟨⟨_, rfl, rfl, ?_⟩, trivial⟩
                  refine g1 ?_
                  refine anyS_cons T0_ok hP hm hN (by rfl) [3, 8] (by rfl) rfl ?_
                  refine ⟨⟨_, rfl, rfl, ?_⟩, ?_⟩
                  · skip
                    refine g1 ?_
                    refine anyS_cons T0_ok hP hm hN (by rfl) [8] (by rfl) rfl ?_
                    refine ⟨⟨_, rfl, rfl, ?_⟩, trivial⟩
                    refine ga1 ?_ (hpre := by refine ⟨by first | trivial | rfl | omega | (simp only [shF_len, List.length_map]; omega) | (exact ⟨by omega, by omega⟩), rfl, rfl, Nat.le_of_ble_eq_true rfl, fun h => (nomatch h), ?_, ?_⟩ <;> (simp only [Ob.kill, Ob.app, Bool.false_eq_true, if_false, List.length_append, List.length_take, List.length_drop, List.length_map, List.length_cons, List.length_nil, shF_len, List.nil_append, List.all_nil, Bool.not_true, List.map_nil]; omega)) (hst := by simp +decide (disch := omega) only [nrm, lk_nrm, dc_nrm, mk_nrm, mf_nrm, ti_nrm, ls_nrm, mp_nrm, nb_nrm, hset, pick_and, pick_or, ↓reduceIte, Nat.reduceAdd, wI64, wI32, wI16, wI8, wU8, List.length_map, Int.toNat_natCast, kl_nrm, List.all_nil, Bool.not_true]; rfl)
                    refine anyS_cons T0_ok hP hm hN (by rfl) [9] (by rfl) rfl ?_
                    refine ⟨⟨_, rfl, rfl, ?_⟩, trivial⟩
                    refine g1 ?_
                    refine anyS_cons T0_ok hP hm hN (by rfl) [11] (by rfl) rfl ?_
                    refine ⟨⟨_, rfl, rfl, ?_⟩, trivial⟩
                    refine g1 ?_
                    refine anyS_cons T0_ok hP hm hN (by rfl) [12] (by rfl) rfl ?_
                    refine ⟨⟨_, rfl, rfl, ?_⟩, trivial⟩
                    refine g1 ?_
                    refine anyS_cons T0_ok hP hm hN (by rfl) [13] (by rfl) rfl ?_
                    refine ⟨⟨_, rfl, rfl, ?_⟩, trivial⟩
                    refine g1 ?_
                    refine anyS_done (by rfl) ?_
                    refine awp_ret ?_
                    refine fin_mk [2] rfl rfl ?_ (by simp only [hr, insL_rows]; exact objs_cons rfl rfl rfl (by simp [Ob.kill, Ob.app, List.map_take, List.map_drop, List.take_of_length_le, shF_len] <;> rfl) rfl (.inl rfl) objs_nil) (by decide)
                    show D.tup [.agg [.val (.int .i16 (addR p xs b).1.1), .own 2], .val (.int .i64 (addR p xs b).2.1), .val (.bool (addR p xs b).2.2)] = _
                    rw [hr]
                    rfl
                  refine ⟨⟨_, rfl, rfl, ?_⟩, trivial⟩
                  refine ga1 ?_ (hpre := by refine ⟨by first | trivial | rfl | omega | (simp only [shF_len, List.length_map]; omega) | (exact ⟨by omega, by omega⟩), rfl, rfl, Nat.le_of_ble_eq_true rfl, fun h => (nomatch h), ?_, ?_⟩ <;> (simp only [Ob.kill, Ob.app, Bool.false_eq_true, if_false, List.length_append, List.length_take, List.length_drop, List.length_map, List.length_cons, List.length_nil, shF_len, List.nil_append, List.all_nil, Bool.not_true, List.map_nil]; omega)) (hst := by simp +decide (disch := omega) only [nrm, lk_nrm, dc_nrm, mk_nrm, mf_nrm, ti_nrm, ls_nrm, mp_nrm, nb_nrm, hset, pick_and, pick_or, ↓reduceIte, Nat.reduceAdd, wI64, wI32, wI16, wI8, wU8, List.length_map, Int.toNat_natCast, kl_nrm, List.all_nil, Bool.not_true]; rfl)
                  refine anyS_cons T0_ok hP hm hN (by rfl) [3] (by rfl) rfl ?_
                  refine ⟨⟨_, rfl, rfl, ?_⟩, trivial⟩
                  refine g1 ?_
                  refine anyS_cons T0_ok hP hm hN (by rfl) [9] (by rfl) rfl ?_
                  refine ⟨⟨_, rfl, rfl, ?_⟩, trivial⟩
                  refine g1 ?_
                  refine anyS_cons T0_ok hP hm hN (by rfl) [11] (by rfl) rfl ?_
                  refine ⟨⟨_, rfl, rfl, ?_⟩, trivial⟩
                  refine g1 ?_
                  refine anyS_cons T0_ok hP hm hN (by rfl) [12] (by rfl) rfl ?_
                  refine ⟨⟨_, rfl, rfl, ?_⟩, trivial⟩
                  refine g1 ?_
                  refine anyS_cons T0_ok hP hm hN (by rfl) [13] (by rfl) rfl ?_
                  refine ⟨⟨_, rfl, rfl, ?_⟩, trivial⟩
                  refine g1 ?_
                  refine anyS_done (by rfl) ?_
                  refine awp_ret ?_
                  refine fin_mk [2] rfl rfl ?_ (by simp only [hr, insL_rows]; exact objs_cons rfl rfl rfl (by simp [Ob.kill, Ob.app, List.map_take, List.map_drop, List.take_of_length_le, shF_len] <;> rfl) rfl (.inl rfl) objs_nil) (by decide)
                  show D.tup [.agg [.val (.int .i16 (addR p xs b).1.1), .own 2], .val (.int .i64 (addR p xs b).2.1), .val (.bool (addR p xs b).2.2)] = _
                  rw [hr]
                  rfl
                refine ⟨⟨_, rfl, rfl, ?_⟩, trivial⟩
                refine g1 ?_
                refine anyS_cons T0_ok hP hm hN (by rfl) [2, 8] (by rfl) rfl ?_
                refine ⟨⟨_, rfl, rfl, ?_⟩, ?_⟩
                · skip
                  refine g1 ?_
                  refine anyS_cons T0_ok hP hm hN (by rfl) [3, 8] (by rfl) rfl ?_
                  refine ⟨⟨_, rfl, rfl, ?_⟩, ?_⟩
                  · skip
                    refine g1 ?_
                    refine anyS_cons T0_ok hP hm hN (by rfl) [8] (by rfl) rfl ?_
                    refine ⟨⟨_, rfl, rfl, ?_⟩, trivial⟩
                    refine ga1 ?_ (hpre := by refine ⟨by first | trivial | rfl | omega | (simp only [shF_len, List.length_map]; omega) | (exact ⟨by omega, by omega⟩), rfl, rfl, Nat.le_of_ble_eq_true rfl, fun h => (nomatch h), ?_, ?_⟩ <;> (simp only [Ob.kill, Ob.app, Bool.false_eq_true, if_false, List.length_append, List.length_take, List.length_drop, List.length_map, List.length_cons, List.length_nil, shF_len, List.nil_append, List.all_nil, Bool.not_true, List.map_nil]; omega)) (hst := by simp +decide (disch := omega) only [nrm, lk_nrm, dc_nrm, mk_nrm, mf_nrm, ti_nrm, ls_nrm, mp_nrm, nb_nrm, hset, pick_and, pick_or, ↓reduceIte, Nat.reduceAdd, wI64, wI32, wI16, wI8, wU8, List.length_map, Int.toNat_natCast, kl_nrm, List.all_nil, Bool.not_true]; rfl)
                    refine anyS_cons T0_ok hP hm hN (by rfl) [9] (by rfl) rfl ?_
                    refine ⟨⟨_, rfl, rfl, ?_⟩, trivial⟩
                    refine g1 ?_
                    refine anyS_cons T0_ok hP hm hN (by rfl) [11] (by rfl) rfl ?_
                    refine ⟨⟨_, rfl, rfl, ?_⟩, trivial⟩
                    refine g1 ?_
                    refine anyS_cons T0_ok hP hm hN (by rfl) [12] (by rfl) rfl ?_
                    refine ⟨⟨_, rfl, rfl, ?_⟩, trivial⟩
                    refine g1 ?_
                    refine anyS_cons T0_ok hP hm hN (by rfl) [13] (by rfl) rfl ?_
                    refine ⟨⟨_, rfl, rfl, ?_⟩, trivial⟩
                    refine g1 ?_
                    refine anyS_done (by rfl) ?_
                    refine awp_ret ?_
                    refine fin_mk [2] rfl rfl ?_ (by simp only [hr, insL_rows]; exact objs_cons rfl rfl rfl (by simp [Ob.kill, Ob.app, List.map_take, List.map_drop, List.take_of_length_le, shF_len] <;> rfl) rfl (.inl rfl) objs_nil) (by decide)
                    show D.tup [.agg [.val (.int .i16 (addR p xs b).1.1), .own 2], .val (.int .i64 (addR p xs b).2.1), .val (.bool (addR p xs b).2.2)] = _
                    rw [hr]
                    rfl
                  refine ⟨⟨_, rfl, rfl, ?_⟩, trivial⟩
                  refine ga1 ?_ (hpre := by refine ⟨by first | trivial | rfl | omega | (simp only [shF_len, List.length_map]; omega) | (exact ⟨by omega, by omega⟩), rfl, rfl, Nat.le_of_ble_eq_true rfl, fun h => (nomatch h), ?_, ?_⟩ <;> (simp only [Ob.kill, Ob.app, Bool.false_eq_true, if_false, List.length_append, List.length_take, List.length_drop, List.length_map, List.length_cons, List.length_nil, shF_len, List.nil_append, List.all_nil, Bool.not_true, List.map_nil]; omega)) (hst := by simp +decide (disch := omega) only [nrm, lk_nrm, dc_nrm, mk_nrm, mf_nrm, ti_nrm, ls_nrm, mp_nrm, nb_nrm, hset, pick_and, pick_or, ↓reduceIte, Nat.reduceAdd, wI64, wI32, wI16, wI8, wU8, List.length_map, Int.toNat_natCast, kl_nrm, List.all_nil, Bool.not_true]; rfl)
                  refine anyS_cons T0_ok hP hm hN (by rfl) [3] (by rfl) rfl ?_
                  refine ⟨⟨_, rfl, rfl, ?_⟩, trivial⟩
                  refine g1 ?_
                  refine anyS_cons T0_ok hP hm hN (by rfl) [9] (by rfl) rfl ?_
                  refine ⟨⟨_, rfl, rfl, ?_⟩, trivial⟩
                  refine g1 ?_
                  refine anyS_cons T0_ok hP hm hN (by rfl) [11] (by rfl) rfl ?_
                  refine ⟨⟨_, rfl, rfl, ?_⟩, trivial⟩
                  refine g1 ?_
                  refine anyS_cons T0_ok hP hm hN (by rfl) [12] (by rfl) rfl ?_
                  refine ⟨⟨_, rfl, rfl, ?_⟩, trivial⟩
                  refine g1 ?_
                  refine anyS_cons T0_ok hP hm hN (by rfl) [13] (by rfl) rfl ?_
                  refine ⟨⟨_, rfl, rfl, ?_⟩, trivial⟩
                  refine g1 ?_
                  refine anyS_done (by rfl) ?_
                  refine awp_ret ?_
                  refine fin_mk [2] rfl rfl ?_ (by simp only [hr, insL_rows]; exact objs_cons rfl rfl rfl (by simp [Ob.kill, Ob.app, List.map_take, List.map_drop, List.take_of_length_le, shF_len] <;> rfl) rfl (.inl rfl) objs_nil) (by decide)
                  show D.tup [.agg [.val (.int .i16 (addR p xs b).1.1), .own 2], .val (.int .i64 (addR p xs b).2.1), .val (.bool (addR p xs b).2.2)] = _
                  rw [hr]
                  rfl
                refine ⟨⟨_, rfl, rfl, ?_⟩, trivial⟩
                refine ga1 ?_ (hpre := by refine ⟨by first | trivial | rfl | omega | (simp only [shF_len, List.length_map]; omega) | (exact ⟨by omega, by omega⟩), rfl, rfl, Nat.le_of_ble_eq_true rfl, fun h => (nomatch h), ?_, ?_⟩ <;> (simp only [Ob.kill, Ob.app, Bool.false_eq_true, if_false, List.length_append, List.length_take, List.length_drop, List.length_map, List.length_cons, List.length_nil, shF_len, List.nil_append, List.all_nil, Bool.not_true, List.map_nil]; omega)) (hst := by simp +decide (disch := omega) only [nrm, lk_nrm, dc_nrm, mk_nrm, mf_nrm, ti_nrm, ls_nrm, mp_nrm, nb_nrm, hset, pick_and, pick_or, ↓reduceIte, Nat.reduceAdd, wI64, wI32, wI16, wI8, wU8, List.length_map, Int.toNat_natCast, kl_nrm, List.all_nil, Bool.not_true]; rfl)
                refine anyS_cons T0_ok hP hm hN (by rfl) [2] (by rfl) rfl ?_
                refine ⟨⟨_, rfl, rfl, ?_⟩, trivial⟩
                refine g1 ?_
                refine anyS_cons T0_ok hP hm hN (by rfl) [3] (by rfl) rfl ?_
                refine ⟨⟨_, rfl, rfl, ?_⟩, trivial⟩
                refine g1 ?_
                refine anyS_cons T0_ok hP hm hN (by rfl) [9] (by rfl) rfl ?_
                refine ⟨⟨_, rfl, rfl, ?_⟩, trivial⟩
                refine g1 ?_
                refine anyS_cons T0_ok hP hm hN (by rfl) [11] (by rfl) rfl ?_
                refine ⟨⟨_, rfl, rfl, ?_⟩, trivial⟩
                refine g1 ?_
                refine anyS_cons T0_ok hP hm hN (by rfl) [12] (by rfl) rfl ?_
                refine ⟨⟨_, rfl, rfl, ?_⟩, trivial⟩
                refine g1 ?_
                refine anyS_cons T0_ok hP hm hN (by rfl) [13] (by rfl) rfl ?_
                refine ⟨⟨_, rfl, rfl, ?_⟩, trivial⟩
                refine g1 ?_
                refine anyS_done (by rfl) ?_
                refine awp_ret ?_
                refine fin_mk [2] rfl rfl ?_ (by simp only [hr, insL_rows]; exact objs_cons rfl rfl rfl (by simp [Ob.kill, Ob.app, List.map_take, List.map_drop, List.take_of_length_le, shF_len] <;> rfl) rfl (.inl rfl) objs_nil) (by decide)
                show D.tup [.agg [.val (.int .i16 (addR p xs b).1.1), .own 2], .val (.int .i64 (addR p xs b).2.1), .val (.bool (addR p xs b).2.2)] = _
                rw [hr]
                rfl
              refine ⟨⟨_, rfl, rfl, ?_⟩, trivial⟩
              refine g1 ?_
              refine anyS_cons T0_ok hP hm hN (by rfl) [1, 8] (by rfl) rfl ?_
              refine ⟨⟨_, rfl, rfl, ?_⟩, ?_⟩
              · skip
                refine g1 ?_
                refine anyS_cons T0_ok hP hm hN (by rfl) [2, 8] (by rfl) rfl ?_
                refine ⟨⟨_, rfl, rfl, ?_⟩, ?_⟩
                · skip
                  refine g1 ?_
                  refine anyS_cons T0_ok hP hm hN (by rfl) [3, 8] (by rfl) rfl ?_
                  refine ⟨⟨_, rfl, rfl, ?_⟩, ?_⟩
                  · skip
                    refine g1 ?_
                    refine anyS_cons T0_ok hP hm hN (by rfl) [8] (by rfl) rfl ?_
                    refine ⟨⟨_, rfl, rfl, ?_⟩, trivial⟩
                    refine ga1 ?_ (hpre := by refine ⟨by first | trivial | rfl | omega | (simp only [shF_len, List.length_map]; omega) | (exact ⟨by omega, by omega⟩), rfl, rfl, Nat.le_of_ble_eq_true rfl, fun h => (nomatch h), ?_, ?_⟩ <;> (simp only [Ob.kill, Ob.app, Bool.false_eq_true, if_false, List.length_append, List.length_take, List.length_drop, List.length_map, List.length_cons, List.length_nil, shF_len, List.nil_append, List.all_nil, Bool.not_true, List.map_nil]; omega)) (hst := by simp +decide (disch := omega) only [nrm, lk_nrm, dc_nrm, mk_nrm, mf_nrm, ti_nrm, ls_nrm, mp_nrm, nb_nrm, hset, pick_and, pick_or, ↓reduceIte, Nat.reduceAdd, wI64, wI32, wI16, wI8, wU8, List.length_map, Int.toNat_natCast, kl_nrm, List.all_nil, Bool.not_true]; rfl)
                    refine anyS_cons T0_ok hP hm hN (by rfl) [9] (by rfl) rfl ?_
                    refine ⟨⟨_, rfl, rfl, ?_⟩, trivial⟩
                    refine g1 ?_
                    refine anyS_cons T0_ok hP hm hN (by rfl) [11] (by rfl) rfl ?_
                    refine ⟨⟨_, rfl, rfl, ?_⟩, trivial⟩
                    refine g1 ?_
                    refine anyS_cons T0_ok hP hm hN (by rfl) [12] (by rfl) rfl ?_
                    refine ⟨⟨_, rfl, rfl, ?_⟩, trivial⟩
                    refine g1 ?_
                    refine anyS_cons T0_ok hP hm hN (by rfl) [13] (by rfl) rfl ?_
                    refine ⟨⟨_, rfl, rfl, ?_⟩, trivial⟩
                    refine g1 ?_
                    refine anyS_done (by rfl) ?_
                    refine awp_ret ?_
                    refine fin_mk [2] rfl rfl ?_ (by simp only [hr, insL_rows]; exact objs_cons rfl rfl rfl (by simp [Ob.kill, Ob.app, List.map_take, List.map_drop, List.take_of_length_le, shF_len] <;> rfl) rfl (.inl rfl) objs_nil) (by decide)
                    show D.tup [.agg [.val (.int .i16 (addR p xs b).1.1), .own 2], .val (.int .i64 (addR p xs b).2.1), .val (.bool (addR p xs b).2.2)] = _
                    rw [hr]
                    rfl
                  refine ⟨⟨_, rfl, rfl, ?_⟩, trivial⟩
                  refine ga1 ?_ (hpre := by refine ⟨by first | trivial | rfl | omega | (simp only [shF_len, List.length_map]; omega) | (exact ⟨by omega, by omega⟩), rfl, rfl, Nat.le_of_ble_eq_true rfl, fun h => (nomatch h), ?_, ?_⟩ <;> (simp only [Ob.kill, Ob.app, Bool.false_eq_true, if_false, List.length_append, List.length_take, List.length_drop, List.length_map, List.length_cons, List.length_nil, shF_len, List.nil_append, List.all_nil, Bool.not_true, List.map_nil]; omega)) (hst := by simp +decide (disch := omega) only [nrm, lk_nrm, dc_nrm, mk_nrm, mf_nrm, ti_nrm, ls_nrm, mp_nrm, nb_nrm, hset, pick_and, pick_or, ↓reduceIte, Nat.reduceAdd, wI64, wI32, wI16, wI8, wU8, List.length_map, Int.toNat_natCast, kl_nrm, List.all_nil, Bool.not_true]; rfl)
                  refine anyS_cons T0_ok hP hm hN (by rfl) [3] (by rfl) rfl ?_
                  refine ⟨⟨_, rfl, rfl, ?_⟩, trivial⟩
                  refine g1 ?_
                  refine anyS_cons T0_ok hP hm hN (by rfl) [9] (by rfl) rfl ?_
                  refine ⟨⟨_, rfl, rfl, ?_⟩, trivial⟩
                  refine g1 ?_
                  refine anyS_cons T0_ok hP hm hN (by rfl) [11] (by rfl) rfl ?_
                  refine ⟨⟨_, rfl, rfl, ?_⟩, trivial⟩
                  refine g1 ?_
                  refine anyS_cons T0_ok hP hm hN (by rfl) [12] (by rfl) rfl ?_
                  refine ⟨⟨_, rfl, rfl, ?_⟩, trivial⟩
                  refine g1 ?_
                  refine anyS_cons T0_ok hP hm hN (by rfl) [13] (by rfl) rfl ?_
                  refine ⟨⟨_, rfl, rfl, ?_⟩, trivial⟩
                  refine g1 ?_
                  refine anyS_done (by rfl) ?_
                  refine awp_ret ?_
                  refine fin_mk [2] rfl rfl ?_ (by simp only [hr, insL_rows]; exact objs_cons rfl rfl rfl (by simp [Ob.kill, Ob.app, List.map_take, List.map_drop, List.take_of_length_le, shF_len] <;> rfl) rfl (.inl rfl) objs_nil) (by decide)
                  show D.tup [.agg [.val (.int .i16 (addR p xs b).1.1), .own 2], .val (.int .i64 (addR p xs b).2.1), .val (.bool (addR p xs b).2.2)] = _
                  rw [hr]
                  rfl
                refine ⟨⟨_, rfl, rfl, ?_⟩, trivial⟩
                refine ga1 ?_ (hpre := by refine ⟨by first | trivial | rfl | omega | (simp only [shF_len, List.length_map]; omega) | (exact ⟨by omega, by omega⟩), rfl, rfl, Nat.le_of_ble_eq_true rfl, fun h => (nomatch h), ?_, ?_⟩ <;> (simp only [Ob.kill, Ob.app, Bool.false_eq_true, if_false, List.length_append, List.length_take, List.length_drop, List.length_map, List.length_cons, List.length_nil, shF_len, List.nil_append, List.all_nil, Bool.not_true, List.map_nil]; omega)) (hst := by simp +decide (disch := omega) only [nrm, lk_nrm, dc_nrm, mk_nrm, mf_nrm, ti_nrm, ls_nrm, mp_nrm, nb_nrm, hset, pick_and, pick_or, ↓reduceIte, Nat.reduceAdd, wI64, wI32, wI16, wI8, wU8, List.length_map, Int.toNat_natCast, kl_nrm, List.all_nil, Bool.not_true]; rfl)
                refine anyS_cons T0_ok hP hm hN (by rfl) [2] (by rfl) rfl ?_
                refine ⟨⟨_, rfl, rfl, ?_⟩, trivial⟩
                refine g1 ?_
                refine anyS_cons T0_ok hP hm hN (by rfl) [3] (by rfl) rfl ?_
                refine ⟨⟨_, rfl, rfl, ?_⟩, trivial⟩
                refine g1 ?_
                refine anyS_cons T0_ok hP hm hN (by rfl) [9] (by rfl) rfl ?_
                refine ⟨⟨_, rfl, rfl, ?_⟩, trivial⟩
                refine g1 ?_
                refine anyS_cons T0_ok hP hm hN (by rfl) [11] (by rfl) rfl ?_
                refine ⟨⟨_, rfl, rfl, ?_⟩, trivial⟩
                refine g1 ?_
                refine anyS_cons T0_ok hP hm hN (by rfl) [12] (by rfl) rfl ?_
                refine ⟨⟨_, rfl, rfl, ?_⟩, trivial⟩
                refine g1 ?_
                refine anyS_cons T0_ok hP hm hN (by rfl) [13] (by rfl) rfl ?_
                refine ⟨⟨_, rfl, rfl, ?_⟩, trivial⟩
                refine g1 ?_
                refine anyS_done (by rfl) ?_
                refine awp_ret ?_
                refine fin_mk [2] rfl rfl ?_ (by simp only [hr, insL_rows]; exact objs_cons rfl rfl rfl (by simp [Ob.kill, Ob.app, List.map_take, List.map_drop, List.take_of_length_le, shF_len] <;> rfl) rfl (.inl rfl) objs_nil) (by decide)
                show D.tup [.agg [.val (.int .i16 (addR p xs b).1.1), .own 2], .val (.int .i64 (addR p xs b).2.1), .val (.bool (addR p xs b).2.2)] = _
                rw [hr]
                rfl
              refine ⟨⟨_, rfl, rfl, ?_⟩, trivial⟩
              refine ga1 ?_ (hpre := by refine ⟨by first | trivial | rfl | omega | (simp only [shF_len, List.length_map]; omega) | (exact ⟨by omega, by omega⟩), rfl, rfl, Nat.le_of_ble_eq_true rfl, fun h => (nomatch h), ?_, ?_⟩ <;> (simp only [Ob.kill, Ob.app, Bool.false_eq_true, if_false, List.length_append, List.length_take, List.length_drop, List.length_map, List.length_cons, List.length_nil, shF_len, List.nil_append, List.all_nil, Bool.not_true, List.map_nil]; omega)) (hst := by simp +decide (disch := omega) only [nrm, lk_nrm, dc_nrm, mk_nrm, mf_nrm, ti_nrm, ls_nrm, mp_nrm, nb_nrm, hset, pick_and, pick_or, ↓reduceIte, Nat.reduceAdd, wI64, wI32, wI16, wI8, wU8, List.length_map, Int.toNat_natCast, kl_nrm, List.all_nil, Bool.not_true]; rfl)
              refine anyS_cons T0_ok hP hm hN (by rfl) [1] (by rfl) rfl ?_
              refine ⟨⟨_, rfl, rfl, ?_⟩, trivial⟩
              refine g1 ?_
              refine anyS_cons T0_ok hP hm hN (by rfl) [2] (by rfl) rfl ?_
              refine ⟨⟨_, rfl, rfl, ?_⟩, trivial⟩
              refine g1 ?_
              refine anyS_cons T0_ok hP hm hN (by rfl) [3] (by rfl) rfl ?_
              refine ⟨⟨_, rfl, rfl, ?_⟩, trivial⟩
              refine g1 ?_
              refine anyS_cons T0_ok hP hm hN (by rfl) [9] (by rfl) rfl ?_
              refine ⟨⟨_, rfl, rfl, ?_⟩, trivial⟩
              refine g1 ?_
              refine anyS_cons T0_ok hP hm hN (by rfl) [11] (by rfl) rfl ?_
              refine ⟨⟨_, rfl, rfl, ?_⟩, trivial⟩
              refine g1 ?_
              refine anyS_cons T0_ok hP hm hN (by rfl) [12] (by rfl) rfl ?_
              refine ⟨⟨_, rfl, rfl, ?_⟩, trivial⟩
              refine g1 ?_
              refine anyS_cons T0_ok hP hm hN (by rfl) [13] (by rfl) rfl ?_
              refine ⟨⟨_, rfl, rfl, ?_⟩, trivial⟩
              refine g1 ?_
              refine anyS_done (by rfl) ?_
              refine awp_ret ?_
              refine fin_mk [2] rfl rfl ?_ (by simp only [hr, insL_rows]; exact objs_cons rfl rfl rfl (by simp [Ob.kill, Ob.app, List.map_take, List.map_drop, List.take_of_length_le, shF_len] <;> rfl) rfl (.inl rfl) objs_nil) (by decide)
              show D.tup [.agg [.val (.int .i16 (addR p xs b).1.1), .own 2], .val (.int .i64 (addR p xs b).2.1), .val (.bool (addR p xs b).2.2)] = _
              rw [hr]
              rfl
          · skip
            have h2 : (decide ((lowG xs.length p (atX xs) (placeN (beforeB b (xs.map Prod.snd)) xs.length)) ≥ 0) && (decide ((highG xs.length p (atX xs) (placeN (beforeB b (xs.map Prod.snd)) xs.length)) < 0) || decide ((lowG xs.length p (atX xs) (placeN (beforeB b (xs.map Prod.snd)) xs.length)) ≤ (highG xs.length p (atX xs) (placeN (beforeB b (xs.map Prod.snd)) xs.length))))) = false := by first | (rw [hs0, hs1]; exact h63) | (rw [hs0]; exact h63)
            have h3 := h2
            have h4 := hc1
            simp only [Bool.and_eq_false_iff, Bool.or_eq_false_iff, decide_eq_false_iff_not] at h3 h4
            have hhi2 : 1 ≤ (highG xs.length p (atX xs) (placeN (beforeB b (xs.map Prod.snd)) xs.length)) ∧ (highG xs.length p (atX xs) (placeN (beforeB b (xs.map Prod.snd)) xs.length)) ≤ (xs.length : Int) - ((placeN (beforeB b (xs.map Prod.snd)) xs.length) : Nat) := by
              rcases hhi with h | h
              · exfalso; omega
              · exact h
            have hr := addR_high p xs b hc0 hc1 h2
            refine awp_seq ?_
            refine r1 T0_ok hP hm hN ?_
            refine g1 ?_
            refine g1 ?_
            refine awp_seq ?_
            refine r1 T0_ok hP hm hN ?_
            refine g1 ?_
            refine g1 ?_
            refine awp_seq ?_
            refine r1 T0_ok hP hm hN ?_
            refine g1 ?_
            refine g1 ?_
            refine awp_block ?_
            refine awp_loop (fun n st => ∃ i : Nat, i ≤ (highG xs.length p (atX xs) (placeN (beforeB b (xs.map Prod.snd)) xs.length)).toNat ∧ n = (highG xs.length p (atX xs) (placeN (beforeB b (xs.map Prod.snd)) xs.length)).toNat - i ∧ st = ⟨[(16, .val (.int .i64 ((((placeN (beforeB b (xs.map Prod.snd)) xs.length) : Nat) : Int) + ((i : Nat) : Int)))), (14, .val (.int .i64 (highG xs.length p (atX xs) (placeN (beforeB b (xs.map Prod.snd)) xs.length)))), (12, .val (.int .i64 (roomR p xs (((placeN (beforeB b (xs.map Prod.snd)) xs.length) : Nat) : Int)).1)), (11, .val (.int .i64 (highG xs.length p (atX xs) (placeN (beforeB b (xs.map Prod.snd)) xs.length)))), (10, .own 1), (7, .val (.int .i64 (((placeN (beforeB b (xs.map Prod.snd)) xs.length) : Nat) : Int))), (4, .ptr 0 0 0), (1, .rptr 8 [bkRow b] 0 0), (0, .rptr 2 [[.val (.int .i16 p), .sl 9 (pls xs)]] 0 0)], [(1, ⟨58, 9, false, pls (shF (fun x => x + 1) ((((placeN (beforeB b (xs.map Prod.snd)) xs.length) : Nat) : Int)) xs i)⟩), (0, ⟨34, 2, true, [[.val (.int .i16 0), .nil]]⟩)], 2⟩) ((highG xs.length p (atX xs) (placeN (beforeB b (xs.map Prod.snd)) xs.length)).toNat) ⟨_, (by rw [show (((placeN (beforeB b (xs.map Prod.snd)) xs.length) : Nat) : Int) + ((0 : Nat) : Int) = (((placeN (beforeB b (xs.map Prod.snd)) xs.length) : Nat) : Int) by omega]; exact weak_sl (sub_cons rfl (sub_cons rfl (sub_cons rfl (sub_cons rfl (sub_cons rfl (sub_cons rfl (sub_cons rfl (sub_cons rfl (sub_cons rfl (sub_nil))))))))))), 0, by omega, rfl, rfl⟩ ?_
            rintro n st ⟨i, hii, hni, rfl⟩
            have hsl := shF_len (fun x => x + 1) ((((placeN (beforeB b (xs.map Prod.snd)) xs.length) : Nat) : Int)) xs i
            refine awp_seq ?_
            refine awp_seq ?_
            refine r1 T0_ok hP hm hN ?_
            refine g1 ?_
            refine g1 ?_
            refine g1 ?_
            refine g1 ?_
            refine g1 ?_
            refine awp_cond rfl (fun h90 => ?_) (fun h90 => ?_)
            · skip
              have hlti : i < (highG xs.length p (atX xs) (placeN (beforeB b (xs.map Prod.snd)) xs.length)).toNat := by simp only [decide_eq_true_eq] at h90; omega
              refine awp_skip ?_
              refine awp_seq ?_
              refine awp_block ?_
              refine r1 T0_ok hP hm hN ?_
              refine g1 ?_
              refine g1 ?_
              refine g1 ?_
              refine g1 ?_
              refine g1 ?_
              refine g1 ?_
              refine g1 ?_
              refine g1 ?_
              refine g1 ?_
              refine r1 T0_ok hP hm hN ?_
              refine g1 ?_
              refine g1 ?_
              refine g1 ?_
              refine ⟨(highG xs.length p (atX xs) (placeN (beforeB b (xs.map Prod.snd)) xs.length)).toNat - (i + 1), _, by omega, (by rw [shF, pls_set, show (((placeN (beforeB b (xs.map Prod.snd)) xs.length) : Nat) : Int) + ((i + 1 : Nat) : Int) = (((placeN (beforeB b (xs.map Prod.snd)) xs.length) : Nat) : Int) + (i : Int) + 1 by omega]; exact weak_sl (sub_cons rfl (sub_cons rfl (sub_cons rfl (sub_cons rfl (sub_cons rfl (sub_cons rfl (sub_cons rfl (sub_cons rfl (sub_cons rfl (sub_nil))))))))))), i + 1, by omega, rfl, rfl⟩
            · skip
              have hgei : ¬ i < (highG xs.length p (atX xs) (placeN (beforeB b (xs.map Prod.snd)) xs.length)).toNat := by simp only [decide_eq_false_iff_not] at h90; omega
              have heqi : i = (highG xs.length p (atX xs) (placeN (beforeB b (xs.map Prod.snd)) xs.length)).toNat := by omega
              subst heqi
              refine awp_exit ?_
              repeat refine thenA_exit ?_
              refine blockA_hit ?_
              refine awp_seq ?_
              refine r1 T0_ok hP hm hN ?_
              refine g1 ?_ (hst := by simp +decide (disch := omega) only [nrm, lk_nrm, dc_nrm, mk_nrm, mf_nrm, ti_nrm, ls_nrm, mp_nrm, nb_nrm, hset, pick_and, pick_or, ↓reduceIte, Nat.reduceAdd, wI64, wI32, wI16, wI8, wU8, List.length_map, Int.toNat_natCast, kl_nrm, List.all_nil, Bool.not_true]; rfl)
              refine g1 ?_
              refine g1 ?_
              refine g1 ?_
              refine ga1 ?_ (hpre := by refine ⟨by first | trivial | rfl | omega | (simp only [shF_len, List.length_map]; omega) | (exact ⟨by omega, by omega⟩), rfl, rfl, Nat.le_of_ble_eq_true rfl, fun h => (nomatch h), ?_, ?_⟩ <;> (simp only [Ob.kill, Ob.app, Bool.false_eq_true, if_false, List.length_append, List.length_take, List.length_drop, List.length_map, List.length_cons, List.length_nil, shF_len, List.nil_append, List.all_nil, Bool.not_true, List.map_nil]; omega)) (hst := by simp +decide (disch := omega) only [nrm, lk_nrm, dc_nrm, mk_nrm, mf_nrm, ti_nrm, ls_nrm, mp_nrm, nb_nrm, hset, pick_and, pick_or, ↓reduceIte, Nat.reduceAdd, wI64, wI32, wI16, wI8, wU8, List.length_map, Int.toNat_natCast, kl_nrm, List.all_nil, Bool.not_true]; rfl)
              refine g1 ?_
              refine awp_seq ?_
              refine r1 T0_ok hP hm hN ?_
              refine g1 ?_
              refine g1 ?_
              refine g1 ?_
              refine g1 ?_
              refine g1 ?_
              refine g1 ?_
              refine g1 ?_
              refine g1 ?_
              refine ga1 ?_ (hpre := by refine ⟨by first | trivial | rfl | omega | (simp only [shF_len, List.length_map]; omega) | (exact ⟨by omega, by omega⟩), rfl, rfl, Nat.le_of_ble_eq_true rfl, fun h => (nomatch h), ?_, ?_⟩ <;> (simp only [Ob.kill, Ob.app, Bool.false_eq_true, if_false, List.length_append, List.length_take, List.length_drop, List.length_map, List.length_cons, List.length_nil, shF_len, List.nil_append, List.all_nil, Bool.not_true, List.map_nil]; omega)) (hst := by simp +decide (disch := omega) only [nrm, lk_nrm, dc_nrm, mk_nrm, mf_nrm, ti_nrm, ls_nrm, mp_nrm, nb_nrm, hset, pick_and, pick_or, ↓reduceIte, Nat.reduceAdd, wI64, wI32, wI16, wI8, wU8, List.length_map, Int.toNat_natCast, kl_nrm, List.all_nil, Bool.not_true]; rfl)
              refine g1 ?_
              refine awp_seq ?_
              refine awp_any hP Pr_mix _ rfl 14 rfl ?_
              refine anyS_float T0_ok hP hm hN (by rfl) 0 rfl rfl rfl (by rfl) (by rfl) (by rfl) ?_
              refine g1 ?_
              refine anyS_float T0_ok hP hm hN (by rfl) 4 rfl rfl rfl (by rfl) (by rfl) (by rfl) ?_
              refine g1 ?_
              refine anyS_float T0_ok hP hm hN (by rfl) 5 rfl rfl rfl (by rfl) (by rfl) (by rfl) ?_
              refine g1 ?_
              refine anyS_float T0_ok hP hm hN (by rfl) 6 rfl rfl rfl (by rfl) (by rfl) (by rfl) ?_
              refine g1 ?_
              refine anyS_float T0_ok hP hm hN (by rfl) 10 rfl rfl rfl (by rfl) (by rfl) (by rfl) ?_
              refine g1 ?_
              refine anyS_cons T0_ok hP hm hN (by rfl) [1, 7] (by rfl) rfl ?_
              refine ⟨⟨_, rfl, rfl, ?_⟩, ?_⟩
              · skip
                refine g1 ?_
                refine anyS_cons T0_ok hP hm hN (by rfl) [2, 7] (by rfl) rfl ?_
                refine ⟨⟨_, rfl, rfl, ?_⟩, ?_⟩
                · skip
                  refine g1 ?_
                  refine anyS_cons T0_ok hP hm hN (by rfl) [3, 7] (by rfl) rfl ?_
                  refine ⟨⟨_, rfl, rfl, ?_⟩, ?_⟩
                  · skip
                    refine g1 ?_
                    refine anyS_cons T0_ok hP hm hN (by rfl) [7] (by rfl) rfl ?_
                    refine ⟨⟨_, rfl, rfl, ?_⟩, trivial⟩
                    refine g1 ?_
                    refine anyS_cons T0_ok hP hm hN (by rfl) [8] (by rfl) rfl ?_
                    refine ⟨⟨_, rfl, rfl, ?_⟩, trivial⟩
                    refine ga1 ?_ (hpre := by refine ⟨by first | trivial | rfl | omega | (simp only [shF_len, List.length_map]; omega) | (exact ⟨by omega, by omega⟩), rfl, rfl, Nat.le_of_ble_eq_true rfl, fun h => (nomatch h), ?_, ?_⟩ <;> (simp only [Ob.kill, Ob.app, Bool.false_eq_true, if_false, List.length_append, List.length_take, List.length_drop, List.length_map, List.length_cons, List.length_nil, shF_len, List.nil_append, List.all_nil, Bool.not_true, List.map_nil]; omega)) (hst := by simp +decide (disch := omega) only [nrm, lk_nrm, dc_nrm, mk_nrm, mf_nrm, ti_nrm, ls_nrm, mp_nrm, nb_nrm, hset, pick_and, pick_or, ↓reduceIte, Nat.reduceAdd, wI64, wI32, wI16, wI8, wU8, List.length_map, Int.toNat_natCast, kl_nrm, List.all_nil, Bool.not_true]; rfl)
                    refine anyS_cons T0_ok hP hm hN (by rfl) [9] (by rfl) rfl ?_
                    refine ⟨⟨_, rfl, rfl, ?_⟩, trivial⟩
                    refine g1 ?_
                    refine anyS_cons T0_ok hP hm hN (by rfl) [11] (by rfl) rfl ?_
                    refine ⟨⟨_, rfl, rfl, ?_⟩, trivial⟩
                    refine g1 ?_
                    refine anyS_cons T0_ok hP hm hN (by rfl) [12] (by rfl) rfl ?_
                    refine ⟨⟨_, rfl, rfl, ?_⟩, trivial⟩
                    refine g1 ?_
                    refine anyS_cons T0_ok hP hm hN (by rfl) [13] (by rfl) rfl ?_
                    refine ⟨⟨_, rfl, rfl, ?_⟩, trivial⟩
                    refine g1 ?_
                    refine anyS_done (by rfl) ?_
                    refine awp_ret ?_
                    refine fin_mk [2] rfl rfl ?_ (by simp only [hr, insL_rows]; exact objs_cons rfl rfl rfl (by simp [Ob.kill, Ob.app, List.map_take, List.map_drop, List.take_of_length_le, shF_len] <;> rfl) rfl (.inl rfl) objs_nil) (by decide)
                    show D.tup [.agg [.val (.int .i16 (addR p xs b).1.1), .own 2], .val (.int .i64 (addR p xs b).2.1), .val (.bool (addR p xs b).2.2)] = _
                    rw [hr]
                    rfl
                  refine ⟨⟨_, rfl, rfl, ?_⟩, trivial⟩
                  refine g1 ?_
                  refine anyS_cons T0_ok hP hm hN (by rfl) [3, 8] (by rfl) rfl ?_
                  refine ⟨⟨_, rfl, rfl, ?_⟩, ?_⟩
                  · skip
                    refine g1 ?_
                    refine anyS_cons T0_ok hP hm hN (by rfl) [8] (by rfl) rfl ?_
                    refine ⟨⟨_, rfl, rfl, ?_⟩, trivial⟩
                    refine ga1 ?_ (hpre := by refine ⟨by first | trivial | rfl | omega | (simp only [shF_len, List.length_map]; omega) | (exact ⟨by omega, by omega⟩), rfl, rfl, Nat.le_of_ble_eq_true rfl, fun h => (nomatch h), ?_, ?_⟩ <;> (simp only [Ob.kill, Ob.app, Bool.false_eq_true, if_false, List.length_append, List.length_take, List.length_drop, List.length_map, List.length_cons, List.length_nil, shF_len, List.nil_append, List.all_nil, Bool.not_true, List.map_nil]; omega)) (hst := by simp +decide (disch := omega) only [nrm, lk_nrm, dc_nrm, mk_nrm, mf_nrm, ti_nrm, ls_nrm, mp_nrm, nb_nrm, hset, pick_and, pick_or, ↓reduceIte, Nat.reduceAdd, wI64, wI32, wI16, wI8, wU8, List.length_map, Int.toNat_natCast, kl_nrm, List.all_nil, Bool.not_true]; rfl)
                    refine anyS_cons T0_ok hP hm hN (by rfl) [9] (by rfl) rfl ?_
                    refine ⟨⟨_, rfl, rfl, ?_⟩, trivial⟩
                    refine g1 ?_
                    refine anyS_cons T0_ok hP hm hN (by rfl) [11] (by rfl) rfl ?_
                    refine ⟨⟨_, rfl, rfl, ?_⟩, trivial⟩
                    refine g1 ?_
                    refine anyS_cons T0_ok hP hm hN (by rfl) [12] (by rfl) rfl ?_
                    refine ⟨⟨_, rfl, rfl, ?_⟩, trivial⟩
                    refine g1 ?_
                    refine anyS_cons T0_ok hP hm hN (by rfl) [13] (by rfl) rfl ?_
                    refine ⟨⟨_, rfl, rfl, ?_⟩, trivial⟩
                    refine g1 ?_
                    refine anyS_done (by rfl) ?_
                    refine awp_ret ?_
                    refine fin_mk [2] rfl rfl ?_ (by simp only [hr, insL_rows]; exact objs_cons rfl rfl rfl (by simp [Ob.kill, Ob.app, List.map_take, List.map_drop, List.take_of_length_le, shF_len] <;> rfl) rfl (.inl rfl) objs_nil) (by decide)
                    show D.tup [.agg [.val (.int .i16 (addR p xs b).1.1), .own 2], .val (.int .i64 (addR p xs b).2.1), .val (.bool (addR p xs b).2.2)] = _
                    rw [hr]
                    rfl
                  refine ⟨⟨_, rfl, rfl, ?_⟩, trivial⟩
                  refine ga1 ?_ (hpre := by refine ⟨by first | trivial | rfl | omega | (simp only [shF_len, List.length_map]; omega) | (exact ⟨by omega, by omega⟩), rfl, rfl, Nat.le_of_ble_eq_true rfl, fun h => (nomatch h), ?_, ?_⟩ <;> (simp only [Ob.kill, Ob.app, Bool.false_eq_true, if_false, List.length_append, List.length_take, List.length_drop, List.length_map, List.length_cons, List.length_nil, shF_len, List.nil_append, List.all_nil, Bool.not_true, List.map_nil]; omega)) (hst := by simp +decide (disch := omega) only [nrm, lk_nrm, dc_nrm, mk_nrm, mf_nrm, ti_nrm, ls_nrm, mp_nrm, nb_nrm, hset, pick_and, pick_or, ↓reduceIte, Nat.reduceAdd, wI64, wI32, wI16, wI8, wU8, List.length_map, Int.toNat_natCast, kl_nrm, List.all_nil, Bool.not_true]; rfl)
                  refine anyS_cons T0_ok hP hm hN (by rfl) [3] (by rfl) rfl ?_
                  refine ⟨⟨_, rfl, rfl, ?_⟩, trivial⟩
                  refine g1 ?_
                  refine anyS_cons T0_ok hP hm hN (by rfl) [9] (by rfl) rfl ?_
                  refine ⟨⟨_, rfl, rfl, ?_⟩, trivial⟩
                  refine g1 ?_
                  refine anyS_cons T0_ok hP hm hN (by rfl) [11] (by rfl) rfl ?_
                  refine ⟨⟨_, rfl, rfl, ?_⟩, trivial⟩
                  refine g1 ?_
                  refine anyS_cons T0_ok hP hm hN (by rfl) [12] (by rfl) rfl ?_
                  refine ⟨⟨_, rfl, rfl, ?_⟩, trivial⟩
                  refine g1 ?_
                  refine anyS_cons T0_ok hP hm hN (by rfl) [13] (by rfl) rfl ?_
                  refine ⟨⟨_, rfl, rfl, ?_⟩, trivial⟩
                  refine g1 ?_
                  refine anyS_done (by rfl) ?_
                  refine awp_ret ?_
                  refine fin_mk [2] rfl rfl ?_ (by simp only [hr, insL_rows]; exact objs_cons rfl rfl rfl (by simp [Ob.kill, Ob.app, List.map_take, List.map_drop, List.take_of_length_le, shF_len] <;> rfl) rfl (.inl rfl) objs_nil) (by decide)
                  show D.tup [.agg [.val (.int .i16 (addR p xs b).1.1), .own 2], .val (.int .i64 (addR p xs b).2.1), .val (.bool (addR p xs b).2.2)] = _
                  rw [hr]
                  rfl
                refine ⟨⟨_, rfl, rfl, ?_⟩, trivial⟩
                refine g1 ?_
                refine anyS_cons T0_ok hP hm hN (by rfl) [2, 8] (by rfl) rfl ?_
                refine ⟨⟨_, rfl, rfl, ?_⟩, ?_⟩
                · skip
                  refine g1 ?_
                  refine anyS_cons T0_ok hP hm hN (by rfl) [3, 8] (by rfl) rfl ?_
                  refine ⟨⟨_, rfl, rfl, ?_⟩, ?_⟩
                  · skip
                    refine g1 ?_
                    refine anyS_cons T0_ok hP hm hN (by rfl) [8] (by rfl) rfl ?_
                    refine ⟨⟨_, rfl, rfl, ?_⟩, trivial⟩
                    refine ga1 ?_ (hpre := by refine ⟨by first | trivial | rfl | omega | (simp only [shF_len, List.length_map]; omega) | (exact ⟨by omega, by omega⟩), rfl, rfl, Nat.le_of_ble_eq_true rfl, fun h => (nomatch h), ?_, ?_⟩ <;> (simp only [Ob.kill, Ob.app, Bool.false_eq_true, if_false, List.length_append, List.length_take, List.length_drop, List.length_map, List.length_cons, List.length_nil, shF_len, List.nil_append, List.all_nil, Bool.not_true, List.map_nil]; omega)) (hst := by simp +decide (disch := omega) only [nrm, lk_nrm, dc_nrm, mk_nrm, mf_nrm, ti_nrm, ls_nrm, mp_nrm, nb_nrm, hset, pick_and, pick_or, ↓reduceIte, Nat.reduceAdd, wI64, wI32, wI16, wI8, wU8, List.length_map, Int.toNat_natCast, kl_nrm, List.all_nil, Bool.not_true]; rfl)
                    refine anyS_cons T0_ok hP hm hN (by rfl) [9] (by rfl) rfl ?_
                    refine ⟨⟨_, rfl, rfl, ?_⟩, trivial⟩
                    refine g1 ?_
                    refine anyS_cons T0_ok hP hm hN (by rfl) [11] (by rfl) rfl ?_
                    refine ⟨⟨_, rfl, rfl, ?_⟩, trivial⟩
                    refine g1 ?_
                    refine anyS_cons T0_ok hP hm hN (by rfl) [12] (by rfl) rfl ?_
                    refine ⟨⟨_, rfl, rfl, ?_⟩, trivial⟩
                    refine g1 ?_
                    refine anyS_cons T0_ok hP hm hN (by rfl) [13] (by rfl) rfl ?_
                    refine ⟨⟨_, rfl, rfl, ?_⟩, trivial⟩
                    refine g1 ?_
                    refine anyS_done (by rfl) ?_
                    refine awp_ret ?_
                    refine fin_mk [2] rfl rfl ?_ (by simp only [hr, insL_rows]; exact objs_cons rfl rfl rfl (by simp [Ob.kill, Ob.app, List.map_take, List.map_drop, List.take_of_length_le, shF_len] <;> rfl) rfl (.inl rfl) objs_nil) (by decide)
                    show D.tup [.agg [.val (.int .i16 (addR p xs b).1.1), .own 2], .val (.int .i64 (addR p xs b).2.1), .val (.bool (addR p xs b).2.2)] = _
                    rw [hr]
                    rfl
                  refine ⟨⟨_, rfl, rfl, ?_⟩, trivial⟩
                  refine ga1 ?_ (hpre := by refine ⟨by first | trivial | rfl | omega | (simp only [shF_len, List.length_map]; omega) | (exact ⟨by omega, by omega⟩), rfl, rfl, Nat.le_of_ble_eq_true rfl, fun h => (nomatch h), ?_, ?_⟩ <;> (simp only [Ob.kill, Ob.app, Bool.false_eq_true, if_false, List.length_append, List.length_take, List.length_drop, List.length_map, List.length_cons, List.length_nil, shF_len, List.nil_append, List.all_nil, Bool.not_true, List.map_nil]; omega)) (hst := by simp +decide (disch := omega) only [nrm, lk_nrm, dc_nrm, mk_nrm, mf_nrm, ti_nrm, ls_nrm, mp_nrm, nb_nrm, hset, pick_and, pick_or, ↓reduceIte, Nat.reduceAdd, wI64, wI32, wI16, wI8, wU8, List.length_map, Int.toNat_natCast, kl_nrm, List.all_nil, Bool.not_true]; rfl)
                  refine anyS_cons T0_ok hP hm hN (by rfl) [3] (by rfl) rfl ?_
                  refine ⟨⟨_, rfl, rfl, ?_⟩, trivial⟩
                  refine g1 ?_
                  refine anyS_cons T0_ok hP hm hN (by rfl) [9] (by rfl) rfl ?_
                  refine ⟨⟨_, rfl, rfl, ?_⟩, trivial⟩
                  refine g1 ?_
                  refine anyS_cons T0_ok hP hm hN (by rfl) [11] (by rfl) rfl ?_
                  refine ⟨⟨_, rfl, rfl, ?_⟩, trivial⟩
                  refine g1 ?_
                  refine anyS_cons T0_ok hP hm hN (by rfl) [12] (by rfl) rfl ?_
                  refine ⟨⟨_, rfl, rfl, ?_⟩, trivial⟩
                  refine g1 ?_
                  refine anyS_cons T0_ok hP hm hN (by rfl) [13] (by rfl) rfl ?_
                  refine ⟨⟨_, rfl, rfl, ?_⟩, trivial⟩
                  refine g1 ?_
                  refine anyS_done (by rfl) ?_
                  refine awp_ret ?_
                  refine fin_mk [2] rfl rfl ?_ (by simp only [hr, insL_rows]; exact objs_cons rfl rfl rfl (by simp [Ob.kill, Ob.app, List.map_take, List.map_drop, List.take_of_length_le, shF_len] <;> rfl) rfl (.inl rfl) objs_nil) (by decide)
                  show D.tup [.agg [.val (.int .i16 (addR p xs b).1.1), .own 2], .val (.int .i64 (addR p xs b).2.1), .val (.bool (addR p xs b).2.2)] = _
                  rw [hr]
                  rfl
                refine ⟨⟨_, rfl, rfl, ?_⟩, trivial⟩
                refine ga1 ?_ (hpre := by refine ⟨by first | trivial | rfl | omega | (simp only [shF_len, List.length_map]; omega) | (exact ⟨by omega, by omega⟩), rfl, rfl, Nat.le_of_ble_eq_true rfl, fun h => (nomatch h), ?_, ?_⟩ <;> (simp only [Ob.kill, Ob.app, Bool.false_eq_true, if_false, List.length_append, List.length_take, List.length_drop, List.length_map, List.length_cons, List.length_nil, shF_len, List.nil_append, List.all_nil, Bool.not_true, List.map_nil]; omega)) (hst := by simp +decide (disch := omega) only [nrm, lk_nrm, dc_nrm, mk_nrm, mf_nrm, ti_nrm, ls_nrm, mp_nrm, nb_nrm, hset, pick_and, pick_or, ↓reduceIte, Nat.reduceAdd, wI64, wI32, wI16, wI8, wU8, List.length_map, Int.toNat_natCast, kl_nrm, List.all_nil, Bool.not_true]; rfl)
                refine anyS_cons T0_ok hP hm hN (by rfl) [2] (by rfl) rfl ?_
                refine ⟨⟨_, rfl, rfl, ?_⟩, trivial⟩
                refine g1 ?_
                refine anyS_cons T0_ok hP hm hN (by rfl) [3] (by rfl) rfl ?_
                refine ⟨⟨_, rfl, rfl, ?_⟩, trivial⟩
                refine g1 ?_
                refine anyS_cons T0_ok hP hm hN (by rfl) [9] (by rfl) rfl ?_
                refine ⟨⟨_, rfl, rfl, ?_⟩, trivial⟩
                refine g1 ?_
                refine anyS_cons T0_ok hP hm hN (by rfl) [11] (by rfl) rfl ?_
                refine ⟨⟨_, rfl, rfl, ?_⟩, trivial⟩
                refine g1 ?_
                refine anyS_cons T0_ok hP hm hN (by rfl) [12] (by rfl) rfl ?_
                refine ⟨⟨_, rfl, rfl, ?_⟩, trivial⟩
                refine g1 ?_
                refine anyS_cons T0_ok hP hm hN (by rfl) [13] (by rfl) rfl ?_
                refine ⟨⟨_, rfl, rfl, ?_⟩, trivial⟩
                refine g1 ?_
                refine anyS_done (by rfl) ?_
                refine awp_ret ?_
                refine fin_mk [2] rfl rfl ?_ (by simp only [hr, insL_rows]; exact objs_cons rfl rfl rfl (by simp [Ob.kill, Ob.app, List.map_take, List.map_drop, List.take_of_length_le, shF_len] <;> rfl) rfl (.inl rfl) objs_nil) (by decide)
                show D.tup [.agg [.val (.int .i16 (addR p xs b).1.1), .own 2], .val (.int .i64 (addR p xs b).2.1), .val (.bool (addR p xs b).2.2)] = _
                rw [hr]
                rfl
              refine ⟨⟨_, rfl, rfl, ?_⟩, trivial⟩
              refine g1 ?_
              refine anyS_cons T0_ok hP hm hN (by rfl) [1, 8] (by rfl) rfl ?_
              refine ⟨⟨_, rfl, rfl, ?_⟩, ?_⟩
              · skip
                refine g1 ?_
                refine anyS_cons T0_ok hP hm hN (by rfl) [2, 8] (by rfl) rfl ?_
                refine ⟨⟨_, rfl, rfl, ?_⟩, ?_⟩
                · skip
                  refine g1 ?_
                  refine anyS_cons T0_ok hP hm hN (by rfl) [3, 8] (by rfl) rfl ?_
                  refine ⟨⟨_, rfl, rfl, ?_⟩, ?_⟩
                  · skip
                    refine g1 ?_
                    refine anyS_cons T0_ok hP hm hN (by rfl) [8] (by rfl) rfl ?_
                    refine ⟨⟨_, rfl, rfl, ?_⟩, trivial⟩
                    refine ga1 ?_ (hpre := by refine ⟨by first | trivial | rfl | omega | (simp only [shF_len, List.length_map]; omega) | (exact ⟨by omega, by omega⟩), rfl, rfl, Nat.le_of_ble_eq_true rfl, fun h => (nomatch h), ?_, ?_⟩ <;> (simp only [Ob.kill, Ob.app, Bool.false_eq_true, if_false, List.length_append, List.length_take, List.length_drop, List.length_map, List.length_cons, List.length_nil, shF_len, List.nil_append, List.all_nil, Bool.not_true, List.map_nil]; omega)) (hst := by simp +decide (disch := omega) only [nrm, lk_nrm, dc_nrm, mk_nrm, mf_nrm, ti_nrm, ls_nrm, mp_nrm, nb_nrm, hset, pick_and, pick_or, ↓reduceIte, Nat.reduceAdd, wI64, wI32, wI16, wI8, wU8, List.length_map, Int.toNat_natCast, kl_nrm, List.all_nil, Bool.not_true]; rfl)
                    refine anyS_cons T0_ok hP hm hN (by rfl) [9] (by rfl) rfl ?_
                    refine ⟨⟨_, rfl, rfl, ?_⟩, trivial⟩
                    refine g1 ?_
                    refine anyS_cons T0_ok hP hm hN (by rfl) [11] (by rfl) rfl ?_
                    refine ⟨⟨_, rfl, rfl, ?_⟩, trivial⟩
                    refine g1 ?_
                    refine anyS_cons T0_ok hP hm hN (by rfl) [12] (by rfl) rfl ?_
                    refine ⟨⟨_, rfl, rfl, ?_⟩, trivial⟩
                    refine g1 ?_
                    refine anyS_cons T0_ok hP hm hN (by rfl) [13] (by rfl) rfl ?_
                    refine ⟨⟨_, rfl, rfl, ?_⟩, trivial⟩
                    refine g1 ?_
                    refine anyS_done (by rfl) ?_
                    refine awp_ret ?_
                    refine fin_mk [2] rfl rfl ?_ (by simp only [hr, insL_rows]; exact objs_cons rfl rfl rfl (by simp [Ob.kill, Ob.app, List.map_take, List.map_drop, List.take_of_length_le, shF_len] <;> rfl) rfl (.inl rfl) objs_nil) (by decide)
                    show D.tup [.agg [.val (.int .i16 (addR p xs b).1.1), .own 2], .val (.int .i64 (addR p xs b).2.1), .val (.bool (addR p xs b).2.2)] = _
                    rw [hr]
                    rfl
                  refine ⟨⟨_, rfl, rfl, ?_⟩, trivial⟩
                  refine ga1 ?_ (hpre := by refine ⟨by first | trivial | rfl | omega | (simp only [shF_len, List.length_map]; omega) | (exact ⟨by omega, by omega⟩), rfl, rfl, Nat.le_of_ble_eq_true rfl, fun h => (nomatch h), ?_, ?_⟩ <;> (simp only [Ob.kill, Ob.app, Bool.false_eq_true, if_false, List.length_append, List.length_take, List.length_drop, List.length_map, List.length_cons, List.length_nil, shF_len, List.nil_append, List.all_nil, Bool.not_true, List.map_nil]; omega)) (hst := by simp +decide (disch := omega) only [nrm, lk_nrm, dc_nrm, mk_nrm, mf_nrm, ti_nrm, ls_nrm, mp_nrm, nb_nrm, hset, pick_and, pick_or, ↓reduceIte, Nat.reduceAdd, wI64, wI32, wI16, wI8, wU8, List.length_map, Int.toNat_natCast, kl_nrm, List.all_nil, Bool.not_true]; rfl)
                  refine anyS_cons T0_ok hP hm hN (by rfl) [3] (by rfl) rfl ?_
                  refine ⟨⟨_, rfl, rfl, ?_⟩, trivial⟩
                  refine g1 ?_
                  refine anyS_cons T0_ok hP hm hN (by rfl) [9] (by rfl) rfl ?_
                  refine ⟨⟨_, rfl, rfl, ?_⟩, trivial⟩
                  refine g1 ?_
                  refine anyS_cons T0_ok hP hm hN (by rfl) [11] (by rfl) rfl ?_
                  refine ⟨⟨_, rfl, rfl, ?_⟩, trivial⟩
                  refine g1 ?_
                  refine anyS_cons T0_ok hP hm hN (by rfl) [12] (by rfl) rfl ?_
                  refine ⟨⟨_, rfl, rfl, ?_⟩, trivial⟩
                  refine g1 ?_
                  refine anyS_cons T0_ok hP hm hN (by rfl) [13] (by rfl) rfl ?_
                  refine ⟨⟨_, rfl, rfl, ?_⟩, trivial⟩
                  refine g1 ?_
                  refine anyS_done (by rfl) ?_
                  refine awp_ret ?_
                  refine fin_mk [2] rfl rfl ?_ (by simp only [hr, insL_rows]; exact objs_cons rfl rfl rfl (by simp [Ob.kill, Ob.app, List.map_take, List.map_drop, List.take_of_length_le, shF_len] <;> rfl) rfl (.inl rfl) objs_nil) (by decide)
                  show D.tup [.agg [.val (.int .i16 (addR p xs b).1.1), .own 2], .val (.int .i64 (addR p xs b).2.1), .val (.bool (addR p xs b).2.2)] = _
                  rw [hr]
                  rfl
                refine ⟨⟨_, rfl, rfl, ?_⟩, trivial⟩
                refine ga1 ?_ (hpre := by refine ⟨by first | trivial | rfl | omega | (simp only [shF_len, List.length_map]; omega) | (exact ⟨by omega, by omega⟩), rfl, rfl, Nat.le_of_ble_eq_true rfl, fun h => (nomatch h), ?_, ?_⟩ <;> (simp only [Ob.kill, Ob.app, Bool.false_eq_true, if_false, List.length_append, List.length_take, List.length_drop, List.length_map, List.length_cons, List.length_nil, shF_len, List.nil_append, List.all_nil, Bool.not_true, List.map_nil]; omega)) (hst := by simp +decide (disch := omega) only [nrm, lk_nrm, dc_nrm, mk_nrm, mf_nrm, ti_nrm, ls_nrm, mp_nrm, nb_nrm, hset, pick_and, pick_or, ↓reduceIte, Nat.reduceAdd, wI64, wI32, wI16, wI8, wU8, List.length_map, Int.toNat_natCast, kl_nrm, List.all_nil, Bool.not_true]; rfl)
                refine anyS_cons T0_ok hP hm hN (by rfl) [2] (by rfl) rfl ?_
                refine ⟨⟨_, rfl, rfl, ?_⟩, trivial⟩
                refine g1 ?_
                refine anyS_cons T0_ok hP hm hN (by rfl) [3] (by rfl) rfl ?_
                refine ⟨⟨_, rfl, rfl, ?_⟩, trivial⟩
                refine g1 ?_
                refine anyS_cons T0_ok hP hm hN (by rfl) [9] (by rfl) rfl ?_
                refine ⟨⟨_, rfl, rfl, ?_⟩, trivial⟩
                refine g1 ?_
                refine anyS_cons T0_ok hP hm hN (by rfl) [11] (by rfl) rfl ?_
                refine ⟨⟨_, rfl, rfl, ?_⟩, trivial⟩
                refine g1 ?_
                refine anyS_cons T0_ok hP hm hN (by rfl) [12] (by rfl) rfl ?_
                refine ⟨⟨_, rfl, rfl, ?_⟩, trivial⟩
                refine g1 ?_
                refine anyS_cons T0_ok hP hm hN (by rfl) [13] (by rfl) rfl ?_
                refine ⟨⟨_, rfl, rfl, ?_⟩, trivial⟩
                refine g1 ?_
                refine anyS_done (by rfl) ?_
                refine awp_ret ?_
                refine fin_mk [2] rfl rfl ?_ (by simp only [hr, insL_rows]; exact objs_cons rfl rfl rfl (by simp [Ob.kill, Ob.app, List.map_take, List.map_drop, List.take_of_length_le, shF_len] <;> rfl) rfl (.inl rfl) objs_nil) (by decide)
                show D.tup [.agg [.val (.int .i16 (addR p xs b).1.1), .own 2], .val (.int .i64 (addR p xs b).2.1), .val (.bool (addR p xs b).2.2)] = _
                rw [hr]
                rfl
              refine ⟨⟨_, rfl, rfl, ?_⟩, trivial⟩
              refine ga1 ?_ (hpre := by refine ⟨by first | trivial | rfl | omega | (simp only [shF_len, List.length_map]; omega) | (exact ⟨by omega, by omega⟩), rfl, rfl, Nat.le_of_ble_eq_true rfl, fun h => (nomatch h), ?_, ?_⟩ <;> (simp only [Ob.kill, Ob.app, Bool.false_eq_true, if_false, List.length_append, List.length_take, List.length_drop, List.length_map, List.length_cons, List.length_nil, shF_len, List.nil_append, List.all_nil, Bool.not_true, List.map_nil]; omega)) (hst := by simp +decide (disch := omega) only [nrm, lk_nrm, dc_nrm, mk_nrm, mf_nrm, ti_nrm, ls_nrm, mp_nrm, nb_nrm, hset, pick_and, pick_or, ↓reduceIte, Nat.reduceAdd, wI64, wI32, wI16, wI8, wU8, List.length_map, Int.toNat_natCast, kl_nrm, List.all_nil, Bool.not_true]; rfl)
              refine anyS_cons T0_ok hP hm hN (by rfl) [1] (by rfl) rfl ?_
              refine ⟨⟨_, rfl, rfl, ?_⟩, trivial⟩
              refine g1 ?_
              refine anyS_cons T0_ok hP hm hN (by rfl) [2] (by rfl) rfl ?_
              refine ⟨⟨_, rfl, rfl, ?_⟩, trivial⟩
              refine g1 ?_
              refine anyS_cons T0_ok hP hm hN (by rfl) [3] (by rfl) rfl ?_
              refine ⟨⟨_, rfl, rfl, ?_⟩, trivial⟩
              refine g1 ?_
              refine anyS_cons T0_ok hP hm hN (by rfl) [9] (by rfl) rfl ?_
              refine ⟨⟨_, rfl, rfl, ?_⟩, trivial⟩
              refine g1 ?_
              refine anyS_cons T0_ok hP hm hN (by rfl) [11] (by rfl) rfl ?_
              refine ⟨⟨_, rfl, rfl, ?_⟩, trivial⟩
              refine g1 ?_
              refine anyS_cons T0_ok hP hm hN (by rfl) [12] (by rfl) rfl ?_
              refine ⟨⟨_, rfl, rfl, ?_⟩, trivial⟩
              refine g1 ?_
              refine anyS_cons T0_ok hP hm hN (by rfl) [13] (by rfl) rfl ?_
              refine ⟨⟨_, rfl, rfl, ?_⟩, trivial⟩
              refine g1 ?_
              refine anyS_done (by rfl) ?_
              refine awp_ret ?_
              refine fin_mk [2] rfl rfl ?_ (by simp only [hr, insL_rows]; exact objs_cons rfl rfl rfl (by simp [Ob.kill, Ob.app, List.map_take, List.map_drop, List.take_of_length_le, shF_len] <;> rfl) rfl (.inl rfl) objs_nil) (by decide)
              show D.tup [.agg [.val (.int .i16 (addR p xs b).1.1), .own 2], .val (.int .i64 (addR p xs b).2.1), .val (.bool (addR p xs b).2.2)] = _
              rw [hr]
              rfl
  · skip
    have hr : addR p xs b = ((p, insL xs (placeN (beforeB b (xs.map Prod.snd)) xs.length) (IntKind.i16.wrap ((roomR p xs (((placeN (beforeB b (xs.map Prod.snd)) xs.length) : Nat) : Int)).1 + ((roomR p xs (((placeN (beforeB b (xs.map Prod.snd)) xs.length) : Nat) : Int)).2 - 1).tdiv 2), b)), 0, true) := by rw [addR, if_neg (by rw [hc0]; simp)]
    refine awp_skip ?_
    refine awp_seq ?_
    refine r1 T0_ok hP hm hN ?_
    refine g1 ?_ (hst := by simp +decide (disch := omega) only [nrm, lk_nrm, dc_nrm, mk_nrm, mf_nrm, ti_nrm, ls_nrm, mp_nrm, nb_nrm, hset, pick_and, pick_or, ↓reduceIte, Nat.reduceAdd, wI64, wI32, wI16, wI8, wU8, List.length_map, Int.toNat_natCast, kl_nrm, List.all_nil, Bool.not_true]; rfl)
    refine g1 ?_
    refine g1 ?_
    refine g1 ?_
    refine ga1 ?_ (hpre := by refine ⟨by first | trivial | rfl | omega | (simp only [shF_len, List.length_map]; omega) | (exact ⟨by omega, by omega⟩), rfl, rfl, Nat.le_of_ble_eq_true rfl, fun h => (nomatch h), ?_, ?_⟩ <;> (simp only [Ob.kill, Ob.app, Bool.false_eq_true, if_false, List.length_append, List.length_take, List.length_drop, List.length_map, List.length_cons, List.length_nil, shF_len, List.nil_append, List.all_nil, Bool.not_true, List.map_nil]; omega)) (hst := by simp +decide (disch := omega) only [nrm, lk_nrm, dc_nrm, mk_nrm, mf_nrm, ti_nrm, ls_nrm, mp_nrm, nb_nrm, hset, pick_and, pick_or, ↓reduceIte, Nat.reduceAdd, wI64, wI32, wI16, wI8, wU8, List.length_map, Int.toNat_natCast, kl_nrm, List.all_nil, Bool.not_true]; rfl)
    refine g1 ?_
    refine awp_seq ?_
    refine r1 T0_ok hP hm hN ?_
    refine g1 ?_
    refine g1 ?_
    refine g1 ?_
    refine g1 ?_
    refine g1 ?_
    refine g1 ?_
    refine g1 ?_
    refine g1 ?_
    refine ga1 ?_ (hpre := by refine ⟨by first | trivial | rfl | omega | (simp only [shF_len, List.length_map]; omega) | (exact ⟨by omega, by omega⟩), rfl, rfl, Nat.le_of_ble_eq_true rfl, fun h => (nomatch h), ?_, ?_⟩ <;> (simp only [Ob.kill, Ob.app, Bool.false_eq_true, if_false, List.length_append, List.length_take, List.length_drop, List.length_map, List.length_cons, List.length_nil, shF_len, List.nil_append, List.all_nil, Bool.not_true, List.map_nil]; omega)) (hst := by simp +decide (disch := omega) only [nrm, lk_nrm, dc_nrm, mk_nrm, mf_nrm, ti_nrm, ls_nrm, mp_nrm, nb_nrm, hset, pick_and, pick_or, ↓reduceIte, Nat.reduceAdd, wI64, wI32, wI16, wI8, wU8, List.length_map, Int.toNat_natCast, kl_nrm, List.all_nil, Bool.not_true]; rfl)
    refine g1 ?_
    refine awp_seq ?_
    refine awp_any hP Pr_mix _ rfl 14 rfl ?_
    refine anyS_float T0_ok hP hm hN (by rfl) 0 rfl rfl rfl (by rfl) (by rfl) (by rfl) ?_
    refine g1 ?_
    refine anyS_float T0_ok hP hm hN (by rfl) 4 rfl rfl rfl (by rfl) (by rfl) (by rfl) ?_
    refine g1 ?_
    refine anyS_float T0_ok hP hm hN (by rfl) 5 rfl rfl rfl (by rfl) (by rfl) (by rfl) ?_
    refine g1 ?_
    refine anyS_float T0_ok hP hm hN (by rfl) 6 rfl rfl rfl (by rfl) (by rfl) (by rfl) ?_
    refine g1 ?_
    refine anyS_float T0_ok hP hm hN (by rfl) 10 rfl rfl rfl (by rfl) (by rfl) (by rfl) ?_
    refine g1 ?_
    refine anyS_cons T0_ok hP hm hN (by rfl) [1, 7] (by rfl) rfl ?_
    refine ⟨⟨_, rfl, rfl, ?_⟩, ?_⟩
    · skip
      refine g1 ?_
      refine anyS_cons T0_ok hP hm hN (by rfl) [2, 7] (by rfl) rfl ?_
      refine ⟨⟨_, rfl, rfl, ?_⟩, ?_⟩
      · skip
        refine g1 ?_
        refine anyS_cons T0_ok hP hm hN (by rfl) [3, 7] (by rfl) rfl ?_
        refine ⟨⟨_, rfl, rfl, ?_⟩, ?_⟩
        · skip
          refine g1 ?_
          refine anyS_cons T0_ok hP hm hN (by rfl) [7] (by rfl) rfl ?_
          refine ⟨⟨_, rfl, rfl, ?_⟩, trivial⟩
          refine g1 ?_
          refine anyS_cons T0_ok hP hm hN (by rfl) [8] (by rfl) rfl ?_
          refine ⟨⟨_, rfl, rfl, ?_⟩, trivial⟩
          refine ga1 ?_ (hpre := by refine ⟨by first | trivial | rfl | omega | (simp only [shF_len, List.length_map]; omega) | (exact ⟨by omega, by omega⟩), rfl, rfl, Nat.le_of_ble_eq_true rfl, fun h => (nomatch h), ?_, ?_⟩ <;> (simp only [Ob.kill, Ob.app, Bool.false_eq_true, if_false, List.length_append, List.length_take, List.length_drop, List.length_map, List.length_cons, List.length_nil, shF_len, List.nil_append, List.all_nil, Bool.not_true, List.map_nil]; omega)) (hst := by simp +decide (disch := omega) only [nrm, lk_nrm, dc_nrm, mk_nrm, mf_nrm, ti_nrm, ls_nrm, mp_nrm, nb_nrm, hset, pick_and, pick_or, ↓reduceIte, Nat.reduceAdd, wI64, wI32, wI16, wI8, wU8, List.length_map, Int.toNat_natCast, kl_nrm, List.all_nil, Bool.not_true]; rfl)
          refine anyS_cons T0_ok hP hm hN (by rfl) [9] (by rfl) rfl ?_
          refine ⟨⟨_, rfl, rfl, ?_⟩, trivial⟩
          refine g1 ?_
          refine anyS_cons T0_ok hP hm hN (by rfl) [11] (by rfl) rfl ?_
          refine ⟨⟨_, rfl, rfl, ?_⟩, trivial⟩
          refine g1 ?_
          refine anyS_cons T0_ok hP hm hN (by rfl) [12] (by rfl) rfl ?_
          refine ⟨⟨_, rfl, rfl, ?_⟩, trivial⟩
          refine g1 ?_
          refine anyS_cons T0_ok hP hm hN (by rfl) [13] (by rfl) rfl ?_
          refine ⟨⟨_, rfl, rfl, ?_⟩, trivial⟩
          refine g1 ?_
          refine anyS_done (by rfl) ?_
          refine awp_ret ?_
          refine fin_mk [2] rfl rfl ?_ (by simp only [hr, insL_rows]; exact objs_cons rfl rfl rfl (by simp [Ob.kill, Ob.app, List.map_take, List.map_drop, List.take_of_length_le, shF_len] <;> rfl) rfl (.inl rfl) objs_nil) (by decide)
          show D.tup [.agg [.val (.int .i16 (addR p xs b).1.1), .own 2], .val (.int .i64 (addR p xs b).2.1), .val (.bool (addR p xs b).2.2)] = _
          rw [hr]
          rfl
        refine ⟨⟨_, rfl, rfl, ?_⟩, trivial⟩
        refine g1 ?_
        refine anyS_cons T0_ok hP hm hN (by rfl) [3, 8] (by rfl) rfl ?_
        refine ⟨⟨_, rfl, rfl, ?_⟩, ?_⟩
        · skip
          refine g1 ?_
          refine anyS_cons T0_ok hP hm hN (by rfl) [8] (by rfl) rfl ?_
          refine ⟨⟨_, rfl, rfl, ?_⟩, trivial⟩
          refine ga1 ?_ (hpre := by refine ⟨by first | trivial | rfl | omega | (simp only [shF_len, List.length_map]; omega) | (exact ⟨by omega, by omega⟩), rfl, rfl, Nat.le_of_ble_eq_true rfl, fun h => (nomatch h), ?_, ?_⟩ <;> (simp only [Ob.kill, Ob.app, Bool.false_eq_true, if_false, List.length_append, List.length_take, List.length_drop, List.length_map, List.length_cons, List.length_nil, shF_len, List.nil_append, List.all_nil, Bool.not_true, List.map_nil]; omega)) (hst := by simp +decide (disch := omega) only [nrm, lk_nrm, dc_nrm, mk_nrm, mf_nrm, ti_nrm, ls_nrm, mp_nrm, nb_nrm, hset, pick_and, pick_or, ↓reduceIte, Nat.reduceAdd, wI64, wI32, wI16, wI8, wU8, List.length_map, Int.toNat_natCast, kl_nrm, List.all_nil, Bool.not_true]; rfl)
          refine anyS_cons T0_ok hP hm hN (by rfl) [9] (by rfl) rfl ?_
          refine ⟨⟨_, rfl, rfl, ?_⟩, trivial⟩
          refine g1 ?_
          refine anyS_cons T0_ok hP hm hN (by rfl) [11] (by rfl) rfl ?_
          refine ⟨⟨_, rfl, rfl, ?_⟩, trivial⟩
          refine g1 ?_
          refine anyS_cons T0_ok hP hm hN (by rfl) [12] (by rfl) rfl ?_
          refine ⟨⟨_, rfl, rfl, ?_⟩, trivial⟩
          refine g1 ?_
          refine anyS_cons T0_ok hP hm hN (by rfl) [13] (by rfl) rfl ?_
          refine ⟨⟨_, rfl, rfl, ?_⟩, trivial⟩
          refine g1 ?_
          refine anyS_done (by rfl) ?_
          refine awp_ret ?_
          refine fin_mk [2] rfl rfl ?_ (by simp only [hr, insL_rows]; exact objs_cons rfl rfl rfl (by simp [Ob.kill, Ob.app, List.map_take, List.map_drop, List.take_of_length_le, shF_len] <;> rfl) rfl (.inl rfl) objs_nil) (by decide)
          show D.tup [.agg [.val (.int .i16 (addR p xs b).1.1), .own 2], .val (.int .i64 (addR p xs b).2.1), .val (.bool (addR p xs b).2.2)] = _
          rw [hr]
          rfl
        refine ⟨⟨_, rfl, rfl, ?_⟩, trivial⟩
        refine ga1 ?_ (hpre := by refine ⟨by first | trivial | rfl | omega | (simp only [shF_len, List.length_map]; omega) | (exact ⟨by omega, by omega⟩), rfl, rfl, Nat.le_of_ble_eq_true rfl, fun h => (nomatch h), ?_, ?_⟩ <;> (simp only [Ob.kill, Ob.app, Bool.false_eq_true, if_false, List.length_append, List.length_take, List.length_drop, List.length_map, List.length_cons, List.length_nil, shF_len, List.nil_append, List.all_nil, Bool.not_true, List.map_nil]; omega)) (hst := by simp +decide (disch := omega) only [nrm, lk_nrm, dc_nrm, mk_nrm, mf_nrm, ti_nrm, ls_nrm, mp_nrm, nb_nrm, hset, pick_and, pick_or, ↓reduceIte, Nat.reduceAdd, wI64, wI32, wI16, wI8, wU8, List.length_map, Int.toNat_natCast, kl_nrm, List.all_nil, Bool.not_true]; rfl)
        refine anyS_cons T0_ok hP hm hN (by rfl) [3] (by rfl) rfl ?_
        refine ⟨⟨_, rfl, rfl, ?_⟩, trivial⟩
        refine g1 ?_
        refine anyS_cons T0_ok hP hm hN (by rfl) [9] (by rfl) rfl ?_
        refine ⟨⟨_, rfl, rfl, ?_⟩, trivial⟩
        refine g1 ?_
        refine anyS_cons T0_ok hP hm hN (by rfl) [11] (by rfl) rfl ?_
        refine ⟨⟨_, rfl, rfl, ?_⟩, trivial⟩
        refine g1 ?_
        refine anyS_cons T0_ok hP hm hN (by rfl) [12] (by rfl) rfl ?_
        refine ⟨⟨_, rfl, rfl, ?_⟩, trivial⟩
        refine g1 ?_
        refine anyS_cons T0_ok hP hm hN (by rfl) [13] (by rfl) rfl ?_
        refine ⟨⟨_, rfl, rfl, ?_⟩, trivial⟩
        refine g1 ?_
        refine anyS_done (by rfl) ?_
        refine awp_ret ?_
        refine fin_mk [2] rfl rfl ?_ (by simp only [hr, insL_rows]; exact objs_cons rfl rfl rfl (by simp [Ob.kill, Ob.app, List.map_take, List.map_drop, List.take_of_length_le, shF_len] <;> rfl) rfl (.inl rfl) objs_nil) (by decide)
        show D.tup [.agg [.val (.int .i16 (addR p xs b).1.1), .own 2], .val (.int .i64 (addR p xs b).2.1), .val (.bool (addR p xs b).2.2)] = _
        rw [hr]
        rfl
      refine ⟨⟨_, rfl, rfl, ?_⟩, trivial⟩
      refine g1 ?_
      refine anyS_cons T0_ok hP hm hN (by rfl) [2, 8] (by rfl) rfl ?_
      refine ⟨⟨_, rfl, rfl, ?_⟩, ?_⟩
      · skip
        refine g1 ?_
        refine anyS_cons T0_ok hP hm hN (by rfl) [3, 8] (by rfl) rfl ?_
        refine ⟨⟨_, rfl, rfl, ?_⟩, ?_⟩
        · skip
          refine g1 ?_
          refine anyS_cons T0_ok hP hm hN (by rfl) [8] (by rfl) rfl ?_
          refine ⟨⟨_, rfl, rfl, ?_⟩, trivial⟩
          refine ga1 ?_ (hpre := by refine ⟨by first | trivial | rfl | omega | (simp only [shF_len, List.length_map]; omega) | (exact ⟨by omega, by omega⟩), rfl, rfl, Nat.le_of_ble_eq_true rfl, fun h => (nomatch h), ?_, ?_⟩ <;> (simp only [Ob.kill, Ob.app, Bool.false_eq_true, if_false, List.length_append, List.length_take, List.length_drop, List.length_map, List.length_cons, List.length_nil, shF_len, List.nil_append, List.all_nil, Bool.not_true, List.map_nil]; omega)) (hst := by simp +decide (disch := omega) only [nrm, lk_nrm, dc_nrm, mk_nrm, mf_nrm, ti_nrm, ls_nrm, mp_nrm, nb_nrm, hset, pick_and, pick_or, ↓reduceIte, Nat.reduceAdd, wI64, wI32, wI16, wI8, wU8, List.length_map, Int.toNat_natCast, kl_nrm, List.all_nil, Bool.not_true]; rfl)
          refine anyS_cons T0_ok hP hm hN (by rfl) [9] (by rfl) rfl ?_
          refine ⟨⟨_, rfl, rfl, ?_⟩, trivial⟩
          refine g1 ?_
          refine anyS_cons T0_ok hP hm hN (by rfl) [11] (by rfl) rfl ?_
          refine ⟨⟨_, rfl, rfl, ?_⟩, trivial⟩
          refine g1 ?_
          refine anyS_cons T0_ok hP hm hN (by rfl) [12] (by rfl) rfl ?_
          refine ⟨⟨_, rfl, rfl, ?_⟩, trivial⟩
          refine g1 ?_
          refine anyS_cons T0_ok hP hm hN (by rfl) [13] (by rfl) rfl ?_
          refine ⟨⟨_, rfl, rfl, ?_⟩, trivial⟩
          refine g1 ?_
          refine anyS_done (by rfl) ?_
          refine awp_ret ?_
          refine fin_mk [2] rfl rfl ?_ (by simp only [hr, insL_rows]; exact objs_cons rfl rfl rfl (by simp [Ob.kill, Ob.app, List.map_take, List.map_drop, List.take_of_length_le, shF_len] <;> rfl) rfl (.inl rfl) objs_nil) (by decide)
          show D.tup [.agg [.val (.int .i16 (addR p xs b).1.1), .own 2], .val (.int .i64 (addR p xs b).2.1), .val (.bool (addR p xs b).2.2)] = _
          rw [hr]
          rfl
        refine ⟨⟨_, rfl, rfl, ?_⟩, trivial⟩
        refine ga1 ?_ (hpre := by refine ⟨by first | trivial | rfl | omega | (simp only [shF_len, List.length_map]; omega) | (exact ⟨by omega, by omega⟩), rfl, rfl, Nat.le_of_ble_eq_true rfl, fun h => (nomatch h), ?_, ?_⟩ <;> (simp only [Ob.kill, Ob.app, Bool.false_eq_true, if_false, List.length_append, List.length_take, List.length_drop, List.length_map, List.length_cons, List.length_nil, shF_len, List.nil_append, List.all_nil, Bool.not_true, List.map_nil]; omega)) (hst := by simp +decide (disch := omega) only [nrm, lk_nrm, dc_nrm, mk_nrm, mf_nrm, ti_nrm, ls_nrm, mp_nrm, nb_nrm, hset, pick_and, pick_or, ↓reduceIte, Nat.reduceAdd, wI64, wI32, wI16, wI8, wU8, List.length_map, Int.toNat_natCast, kl_nrm, List.all_nil, Bool.not_true]; rfl)
        refine anyS_cons T0_ok hP hm hN (by rfl) [3] (by rfl) rfl ?_
        refine ⟨⟨_, rfl, rfl, ?_⟩, trivial⟩
        refine g1 ?_
        refine anyS_cons T0_ok hP hm hN (by rfl) [9] (by rfl) rfl ?_
        refine ⟨⟨_, rfl, rfl, ?_⟩, trivial⟩
        refine g1 ?_
        refine anyS_cons T0_ok hP hm hN (by rfl) [11] (by rfl) rfl ?_
        refine ⟨⟨_, rfl, rfl, ?_⟩, trivial⟩
        refine g1 ?_
        refine anyS_cons T0_ok hP hm hN (by rfl) [12] (by rfl) rfl ?_
        refine ⟨⟨_, rfl, rfl, ?_⟩, trivial⟩
        refine g1 ?_
        refine anyS_cons T0_ok hP hm hN (by rfl) [13] (by rfl) rfl ?_
        refine ⟨⟨_, rfl, rfl, ?_⟩, trivial⟩
        refine g1 ?_
        refine anyS_done (by rfl) ?_
        refine awp_ret ?_
        refine fin_mk [2] rfl rfl ?_ (by simp only [hr, insL_rows]; exact objs_cons rfl rfl rfl (by simp [Ob.kill, Ob.app, List.map_take, List.map_drop, List.take_of_length_le, shF_len] <;> rfl) rfl (.inl rfl) objs_nil) (by decide)
        show D.tup [.agg [.val (.int .i16 (addR p xs b).1.1), .own 2], .val (.int .i64 (addR p xs b).2.1), .val (.bool (addR p xs b).2.2)] = _
        rw [hr]
        rfl
      refine ⟨⟨_, rfl, rfl, ?_⟩, trivial⟩
      refine ga1 ?_ (hpre := by refine ⟨by first | trivial | rfl | omega | (simp only [shF_len, List.length_map]; omega) | (exact ⟨by omega, by omega⟩), rfl, rfl, Nat.le_of_ble_eq_true rfl, fun h => (nomatch h), ?_, ?_⟩ <;> (simp only [Ob.kill, Ob.app, Bool.false_eq_true, if_false, List.length_append, List.length_take, List.length_drop, List.length_map, List.length_cons, List.length_nil, shF_len, List.nil_append, List.all_nil, Bool.not_true, List.map_nil]; omega)) (hst := by simp +decide (disch := omega) only [nrm, lk_nrm, dc_nrm, mk_nrm, mf_nrm, ti_nrm, ls_nrm, mp_nrm, nb_nrm, hset, pick_and, pick_or, ↓reduceIte, Nat.reduceAdd, wI64, wI32, wI16, wI8, wU8, List.length_map, Int.toNat_natCast, kl_nrm, List.all_nil, Bool.not_true]; rfl)
      refine anyS_cons T0_ok hP hm hN (by rfl) [2] (by rfl) rfl ?_
      refine ⟨⟨_, rfl, rfl, ?_⟩, trivial⟩
      refine g1 ?_
      refine anyS_cons T0_ok hP hm hN (by rfl) [3] (by rfl) rfl ?_
      refine ⟨⟨_, rfl, rfl, ?_⟩, trivial⟩
      refine g1 ?_
      refine anyS_cons T0_ok hP hm hN (by rfl) [9] (by rfl) rfl ?_
      refine ⟨⟨_, rfl, rfl, ?_⟩, trivial⟩
      refine g1 ?_
      refine anyS_cons T0_ok hP hm hN (by rfl) [11] (by rfl) rfl ?_
      refine ⟨⟨_, rfl, rfl, ?_⟩, trivial⟩
      refine g1 ?_
      refine anyS_cons T0_ok hP hm hN (by rfl) [12] (by rfl) rfl ?_
      refine ⟨⟨_, rfl, rfl, ?_⟩, trivial⟩
      refine g1 ?_
      refine anyS_cons T0_ok hP hm hN (by rfl) [13] (by rfl) rfl ?_
      refine ⟨⟨_, rfl, rfl, ?_⟩, trivial⟩
      refine g1 ?_
      refine anyS_done (by rfl) ?_
      refine awp_ret ?_
      refine fin_mk [2] rfl rfl ?_ (by simp only [hr, insL_rows]; exact objs_cons rfl rfl rfl (by simp [Ob.kill, Ob.app, List.map_take, List.map_drop, List.take_of_length_le, shF_len] <;> rfl) rfl (.inl rfl) objs_nil) (by decide)
      show D.tup [.agg [.val (.int .i16 (addR p xs b).1.1), .own 2], .val (.int .i64 (addR p xs b).2.1), .val (.bool (addR p xs b).2.2)] = _
      rw [hr]
      rfl
    refine ⟨⟨_, rfl, rfl, ?_⟩, trivial⟩
    refine g1 ?_
    refine anyS_cons T0_ok hP hm hN (by rfl) [1, 8] (by rfl) rfl ?_
    refine ⟨⟨_, rfl, rfl, ?_⟩, ?_⟩
    · skip
      refine g1 ?_
      refine anyS_cons T0_ok hP hm hN (by rfl) [2, 8] (by rfl) rfl ?_
      refine ⟨⟨_, rfl, rfl, ?_⟩, ?_⟩
      · skip
        refine g1 ?_
        refine anyS_cons T0_ok hP hm hN (by rfl) [3, 8] (by rfl) rfl ?_
        refine ⟨⟨_, rfl, rfl, ?_⟩, ?_⟩
        · skip
          refine g1 ?_
          refine anyS_cons T0_ok hP hm hN (by rfl) [8] (by rfl) rfl ?_
          refine ⟨⟨_, rfl, rfl, ?_⟩, trivial⟩
          refine ga1 ?_ (hpre := by refine ⟨by first | trivial | rfl | omega | (simp only [shF_len, List.length_map]; omega) | (exact ⟨by omega, by omega⟩), rfl, rfl, Nat.le_of_ble_eq_true rfl, fun h => (nomatch h), ?_, ?_⟩ <;> (simp only [Ob.kill, Ob.app, Bool.false_eq_true, if_false, List.length_append, List.length_take, List.length_drop, List.length_map, List.length_cons, List.length_nil, shF_len, List.nil_append, List.all_nil, Bool.not_true, List.map_nil]; omega)) (hst := by simp +decide (disch := omega) only [nrm, lk_nrm, dc_nrm, mk_nrm, mf_nrm, ti_nrm, ls_nrm, mp_nrm, nb_nrm, hset, pick_and, pick_or, ↓reduceIte, Nat.reduceAdd, wI64, wI32, wI16, wI8, wU8, List.length_map, Int.toNat_natCast, kl_nrm, List.all_nil, Bool.not_true]; rfl)
          refine anyS_cons T0_ok hP hm hN (by rfl) [9] (by rfl) rfl ?_
          refine ⟨⟨_, rfl, rfl, ?_⟩, trivial⟩
          refine g1 ?_
          refine anyS_cons T0_ok hP hm hN (by rfl) [11] (by rfl) rfl ?_
          refine ⟨⟨_, rfl, rfl, ?_⟩, trivial⟩
          refine g1 ?_
          refine anyS_cons T0_ok hP hm hN (by rfl) [12] (by rfl) rfl ?_
          refine ⟨⟨_, rfl, rfl, ?_⟩, trivial⟩
          refine g1 ?_
          refine anyS_cons T0_ok hP hm hN (by rfl) [13] (by rfl) rfl ?_
          refine ⟨⟨_, rfl, rfl, ?_⟩, trivial⟩
          refine g1 ?_
          refine anyS_done (by rfl) ?_
          refine awp_ret ?_
          refine fin_mk [2] rfl rfl ?_ (by simp only [hr, insL_rows]; exact objs_cons rfl rfl rfl (by simp [Ob.kill, Ob.app, List.map_take, List.map_drop, List.take_of_length_le, shF_len] <;> rfl) rfl (.inl rfl) objs_nil) (by decide)
          show D.tup [.agg [.val (.int .i16 (addR p xs b).1.1), .own 2], .val (.int .i64 (addR p xs b).2.1), .val (.bool (addR p xs b).2.2)] = _
          rw [hr]
          rfl
        refine ⟨⟨_, rfl, rfl, ?_⟩, trivial⟩
        refine ga1 ?_ (hpre := by refine ⟨by first | trivial | rfl | omega | (simp only [shF_len, List.length_map]; omega) | (exact ⟨by omega, by omega⟩), rfl, rfl, Nat.le_of_ble_eq_true rfl, fun h => (nomatch h), ?_, ?_⟩ <;> (simp only [Ob.kill, Ob.app, Bool.false_eq_true, if_false, List.length_append, List.length_take, List.length_drop, List.length_map, List.length_cons, List.length_nil, shF_len, List.nil_append, List.all_nil, Bool.not_true, List.map_nil]; omega)) (hst := by simp +decide (disch := omega) only [nrm, lk_nrm, dc_nrm, mk_nrm, mf_nrm, ti_nrm, ls_nrm, mp_nrm, nb_nrm, hset, pick_and, pick_or, ↓reduceIte, Nat.reduceAdd, wI64, wI32, wI16, wI8, wU8, List.length_map, Int.toNat_natCast, kl_nrm, List.all_nil, Bool.not_true]; rfl)
        refine anyS_cons T0_ok hP hm hN (by rfl) [3] (by rfl) rfl ?_
        refine ⟨⟨_, rfl, rfl, ?_⟩, trivial⟩
        refine g1 ?_
        refine anyS_cons T0_ok hP hm hN (by rfl) [9] (by rfl) rfl ?_
        refine ⟨⟨_, rfl, rfl, ?_⟩, trivial⟩
        refine g1 ?_
        refine anyS_cons T0_ok hP hm hN (by rfl) [11] (by rfl) rfl ?_
        refine ⟨⟨_, rfl, rfl, ?_⟩, trivial⟩
        refine g1 ?_
        refine anyS_cons T0_ok hP hm hN (by rfl) [12] (by rfl) rfl ?_
        refine ⟨⟨_, rfl, rfl, ?_⟩, trivial⟩
        refine g1 ?_
        refine anyS_cons T0_ok hP hm hN (by rfl) [13] (by rfl) rfl ?_
        refine ⟨⟨_, rfl, rfl, ?_⟩, trivial⟩
        refine g1 ?_
        refine anyS_done (by rfl) ?_
        refine awp_ret ?_
        refine fin_mk [2] rfl rfl ?_ (by simp only [hr, insL_rows]; exact objs_cons rfl rfl rfl (by simp [Ob.kill, Ob.app, List.map_take, List.map_drop, List.take_of_length_le, shF_len] <;> rfl) rfl (.inl rfl) objs_nil) (by decide)
        show D.tup [.agg [.val (.int .i16 (addR p xs b).1.1), .own 2], .val (.int .i64 (addR p xs b).2.1), .val (.bool (addR p xs b).2.2)] = _
        rw [hr]
        rfl
      refine ⟨⟨_, rfl, rfl, ?_⟩, trivial⟩
      refine ga1 ?_ (hpre := by refine ⟨by first | trivial | rfl | omega | (simp only [shF_len, List.length_map]; omega) | (exact ⟨by omega, by omega⟩), rfl, rfl, Nat.le_of_ble_eq_true rfl, fun h => (nomatch h), ?_, ?_⟩ <;> (simp only [Ob.kill, Ob.app, Bool.false_eq_true, if_false, List.length_append, List.length_take, List.length_drop, List.length_map, List.length_cons, List.length_nil, shF_len, List.nil_append, List.all_nil, Bool.not_true, List.map_nil]; omega)) (hst := by simp +decide (disch := omega) only [nrm, lk_nrm, dc_nrm, mk_nrm, mf_nrm, ti_nrm, ls_nrm, mp_nrm, nb_nrm, hset, pick_and, pick_or, ↓reduceIte, Nat.reduceAdd, wI64, wI32, wI16, wI8, wU8, List.length_map, Int.toNat_natCast, kl_nrm, List.all_nil, Bool.not_true]; rfl)
      refine anyS_cons T0_ok hP hm hN (by rfl) [2] (by rfl) rfl ?_
      refine ⟨⟨_, rfl, rfl, ?_⟩, trivial⟩
      refine g1 ?_
      refine anyS_cons T0_ok hP hm hN (by rfl) [3] (by rfl) rfl ?_
      refine ⟨⟨_, rfl, rfl, ?_⟩, trivial⟩
      refine g1 ?_
      refine anyS_cons T0_ok hP hm hN (by rfl) [9] (by rfl) rfl ?_
      refine ⟨⟨_, rfl, rfl, ?_⟩, trivial⟩
      refine g1 ?_
      refine anyS_cons T0_ok hP hm hN (by rfl) [11] (by rfl) rfl ?_
      refine ⟨⟨_, rfl, rfl, ?_⟩, trivial⟩
      refine g1 ?_
      refine anyS_cons T0_ok hP hm hN (by rfl) [12] (by rfl) rfl ?_
      refine ⟨⟨_, rfl, rfl, ?_⟩, trivial⟩
      refine g1 ?_
      refine anyS_cons T0_ok hP hm hN (by rfl) [13] (by rfl) rfl ?_
      refine ⟨⟨_, rfl, rfl, ?_⟩, trivial⟩
      refine g1 ?_
      refine anyS_done (by rfl) ?_
      refine awp_ret ?_
      refine fin_mk [2] rfl rfl ?_ (by simp only [hr, insL_rows]; exact objs_cons rfl rfl rfl (by simp [Ob.kill, Ob.app, List.map_take, List.map_drop, List.take_of_length_le, shF_len] <;> rfl) rfl (.inl rfl) objs_nil) (by decide)
      show D.tup [.agg [.val (.int .i16 (addR p xs b).1.1), .own 2], .val (.int .i64 (addR p xs b).2.1), .val (.bool (addR p xs b).2.2)] = _
      rw [hr]
      rfl
    refine ⟨⟨_, rfl, rfl, ?_⟩, trivial⟩
    refine ga1 ?_ (hpre := by refine ⟨by first | trivial | rfl | omega | (simp only [shF_len, List.length_map]; omega) | (exact ⟨by omega, by omega⟩), rfl, rfl, Nat.le_of_ble_eq_true rfl, fun h => (nomatch h), ?_, ?_⟩ <;> (simp only [Ob.kill, Ob.app, Bool.false_eq_true, if_false, List.length_append, List.length_take, List.length_drop, List.length_map, List.length_cons, List.length_nil, shF_len, List.nil_append, List.all_nil, Bool.not_true, List.map_nil]; omega)) (hst := by simp +decide (disch := omega) only [nrm, lk_nrm, dc_nrm, mk_nrm, mf_nrm, ti_nrm, ls_nrm, mp_nrm, nb_nrm, hset, pick_and, pick_or, ↓reduceIte, Nat.reduceAdd, wI64, wI32, wI16, wI8, wU8, List.length_map, Int.toNat_natCast, kl_nrm, List.all_nil, Bool.not_true]; rfl)
    refine anyS_cons T0_ok hP hm hN (by rfl) [1] (by rfl) rfl ?_
    refine ⟨⟨_, rfl, rfl, ?_⟩, trivial⟩
    refine g1 ?_
    refine anyS_cons T0_ok hP hm hN (by rfl) [2] (by rfl) rfl ?_
    refine ⟨⟨_, rfl, rfl, ?_⟩, trivial⟩
    refine g1 ?_
    refine anyS_cons T0_ok hP hm hN (by rfl) [3] (by rfl) rfl ?_
    refine ⟨⟨_, rfl, rfl, ?_⟩, trivial⟩
    refine g1 ?_
    refine anyS_cons T0_ok hP hm hN (by rfl) [9] (by rfl) rfl ?_
    refine ⟨⟨_, rfl, rfl, ?_⟩, trivial⟩
    refine g1 ?_
    refine anyS_cons T0_ok hP hm hN (by rfl) [11] (by rfl) rfl ?_
    refine ⟨⟨_, rfl, rfl, ?_⟩, trivial⟩
    refine g1 ?_
    refine anyS_cons T0_ok hP hm hN (by rfl) [12] (by rfl) rfl ?_
    refine ⟨⟨_, rfl, rfl, ?_⟩, trivial⟩
    refine g1 ?_
    refine anyS_cons T0_ok hP hm hN (by rfl) [13] (by rfl) rfl ?_
    refine ⟨⟨_, rfl, rfl, ?_⟩, trivial⟩
    refine g1 ?_
    refine anyS_done (by rfl) ?_
    refine awp_ret ?_
    refine fin_mk [2] rfl rfl ?_ (by simp only [hr, insL_rows]; exact objs_cons rfl rfl rfl (by simp [Ob.kill, Ob.app, List.map_take, List.map_drop, List.take_of_length_le, shF_len] <;> rfl) rfl (.inl rfl) objs_nil) (by decide)
    show D.tup [.agg [.val (.int .i16 (addR p xs b).1.1), .own 2], .val (.int .i64 (addR p xs b).2.1), .val (.bool (addR p xs b).2.2)] = _
    rw [hr]
    rfl
end Go.Proofs.Ytafobbekeoghiaa.Abs
