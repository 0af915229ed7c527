import Derived.Test.YthdgihkffcmkiaaR1
set_option linter.unusedVariables false
set_option linter.unusedSimpArgs false
namespace Go.Proofs.Ythdgihkffcmkiaa.Abs
open Go Go.RowKit
def maxI (a b : Int) : Int := if b > a then b else a
theorem max_nrm (a b : Int) : (if b > a then b else a) = maxI a b := rfl
theorem maxI_b (a b : Int) : a ≤ maxI a b ∧ b ≤ maxI a b ∧ (maxI a b = a ∨ maxI a b = b) := by
  unfold maxI
  split <;> omega


def topF (f0 : Int) (f : List Int) : Nat → Int
  | 0 => f0
  | i + 1 => maxI (topF f0 f i) (f.getD i 0)
theorem topF_b (f0 : Int) (f : List Int) : ∀ i, f0 ≤ topF f0 f i ∧ (∀ k, k < i → f.getD k 0 ≤ topF f0 f i) ∧ (topF f0 f i = f0 ∨ ∃ k, k < i ∧ f.getD k 0 = topF f0 f i)
  | 0 => ⟨Int.le_refl _, fun k h => by omega, .inl rfl⟩
  | i + 1 => by
    obtain ⟨h1, h2, h3⟩ := topF_b f0 f i
    have hb := maxI_b (topF f0 f i) (f.getD i 0)
    rw [topF]
    refine ⟨by omega, fun k hk => ?_, ?_⟩
    · by_cases e : k = i
      · subst e; exact hb.2.1
      · have := h2 k (by omega); omega
    · rcases hb.2.2 with h4 | h4
      · rw [h4]; exact h3.imp id (fun ⟨k, a, b⟩ => ⟨k, by omega, b⟩)
      · rw [h4]; exact .inr ⟨i, by omega, rfl⟩
theorem top_app (f : List Int) (hf : ∀ k, k < f.length → 1 ≤ f.getD k 0) : topF ((f ++ [0]).getD 0 0) (f ++ [0]) (f ++ [0]).length = topF 0 f f.length := by
  have hg : ∀ k, k < f.length → (f ++ [0]).getD k 0 = f.getD k 0 := fun k hk => by simp [List.getD, List.getElem?_append_left hk]
  have hl : (f ++ [0]).getD f.length 0 = 0 := by simp [List.getD]
  obtain ⟨a1, a2, a3⟩ := topF_b ((f ++ [0]).getD 0 0) (f ++ [0]) (f ++ [0]).length
  obtain ⟨b1, b2, b3⟩ := topF_b 0 f f.length
  have hlen : (f ++ [0]).length = f.length + 1 := by simp
  have c1 := a2 f.length (by omega)
  rw [hl] at c1
  rcases Nat.eq_zero_or_pos f.length with h0 | h0
  · have : f = [] := List.eq_nil_of_length_eq_zero h0
    subst this
    rfl
  · -- both are the greatest
    have le1 : topF ((f ++ [0]).getD 0 0) (f ++ [0]) (f ++ [0]).length ≤ topF 0 f f.length := by
      rcases a3 with h | ⟨k, hk, h⟩
      · rw [h, hg 0 h0]; exact b2 0 h0
      · rw [← h]
        by_cases e : k < f.length
        · rw [hg k e]; exact b2 k e
        · rw [show k = f.length by omega, hl]; exact b1
    have le2 : topF 0 f f.length ≤ topF ((f ++ [0]).getD 0 0) (f ++ [0]) (f ++ [0]).length := by
      rcases b3 with h | ⟨k, hk, h⟩
      · rw [h]; exact c1
      · rw [← h, ← hg k hk]; exact a2 k (by omega)
    omega

noncomputable def passL (xs : List Bk) : List Int := psL xs.length (plcL xs) xs.length
theorem passL_len (xs : List Bk) : (passL xs).length = xs.length := psL_len _ _ _
noncomputable def passR (xs : List Bk) : List Int × Int := if !validBs xs then ([], 1) else (passL xs, 0)
noncomputable def passO (xs : List Bk) : Int × Int := if !validBs xs then (0, 1) else (topF 0 (passL xs) xs.length, 0)

noncomputable abbrev s_I_passes : Spec (List Bk) where
  args := fun xs => [.sl 8 (bks xs)]
  pre := fun xs => xs.length ≤ 60
  new := fun xs => [⟨2, 1, false, i64s (passL xs)⟩]
  res := fun xs => .own 0

set_option maxRecDepth 20000 in
set_option maxHeartbeats 4000000 in
theorem ok_I_passes : FnOk Pr 22 s_I_passes := by
  refine fn_ok 1 0 T0_ok Go.Proofs.Try.func22 rfl (enters_of Go.Proofs.Try.func22 rfl rfl) (fun _ => rfl) (fun _ => rfl) (fun _ => rfl) ?_
  rintro xs h60 C hP hN hm hG
  change awp C _ _ ⟨[(0, .sl 8 (bks xs))], [], 0⟩
  have h60 : xs.length ≤ 60 := h60
  have hIv := inv_rk xs
  have hpl := plcL_len xs
  have hrl : (rkL xs).length = xs.length := rkR_len xs xs.length
  refine awp_seq ?_
  refine r1 T0_ok hP hm hN ?_
  refine g1 ?_ (hst := by simp +decide (disch := omega) only [nrm, lk_nrm, dc_nrm, mk_nrm, mf_nrm, ti_nrm, ls_nrm, mp_nrm, nb_nrm, hset, pick_and, pick_or, ↓reduceIte, Nat.reduceAdd, wI64, wI32, wI16, wI8, wU8, List.length_map, Int.toNat_natCast, plcL_len, i64s_set, i64s_rep, List.length_replicate]; rfl)
  refine awp_seq ?_
  refine r1 T0_ok hP hm hN ?_
  refine g1 ?_ (hst := by simp +decide (disch := omega) only [nrm, lk_nrm, dc_nrm, mk_nrm, mf_nrm, ti_nrm, ls_nrm, mp_nrm, nb_nrm, hset, pick_and, pick_or, ↓reduceIte, Nat.reduceAdd, wI64, wI32, wI16, wI8, wU8, List.length_map, Int.toNat_natCast, plcL_len, i64s_set, i64s_rep, List.length_replicate]; rfl)
  refine g1 ?_ (hst := by simp +decide (disch := omega) only [nrm, lk_nrm, dc_nrm, mk_nrm, mf_nrm, ti_nrm, ls_nrm, mp_nrm, nb_nrm, hset, pick_and, pick_or, ↓reduceIte, Nat.reduceAdd, wI64, wI32, wI16, wI8, wU8, List.length_map, Int.toNat_natCast, plcL_len, i64s_set, i64s_rep, List.length_replicate]; rfl)
  refine g1 ?_ (hst := by simp +decide (disch := omega) only [nrm, lk_nrm, dc_nrm, mk_nrm, mf_nrm, ti_nrm, ls_nrm, mp_nrm, nb_nrm, hset, pick_and, pick_or, ↓reduceIte, Nat.reduceAdd, wI64, wI32, wI16, wI8, wU8, List.length_map, Int.toNat_natCast, plcL_len, i64s_set, i64s_rep, List.length_replicate]; rfl)
  refine g1 ?_ (hst := by simp +decide (disch := omega) only [nrm, lk_nrm, dc_nrm, mk_nrm, mf_nrm, ti_nrm, ls_nrm, mp_nrm, nb_nrm, hset, pick_and, pick_or, ↓reduceIte, Nat.reduceAdd, wI64, wI32, wI16, wI8, wU8, List.length_map, Int.toNat_natCast, plcL_len, i64s_set, i64s_rep, List.length_replicate]; rfl)
  refine awp_seq ?_
  refine r1 T0_ok hP hm hN ?_
  refine g1 ?_ (hst := by simp +decide (disch := omega) only [nrm, lk_nrm, dc_nrm, mk_nrm, mf_nrm, ti_nrm, ls_nrm, mp_nrm, nb_nrm, hset, pick_and, pick_or, ↓reduceIte, Nat.reduceAdd, wI64, wI32, wI16, wI8, wU8, List.length_map, Int.toNat_natCast, plcL_len, i64s_set, i64s_rep, List.length_replicate]; rfl)
  refine g1 ?_ (hst := by simp +decide (disch := omega) only [nrm, lk_nrm, dc_nrm, mk_nrm, mf_nrm, ti_nrm, ls_nrm, mp_nrm, nb_nrm, hset, pick_and, pick_or, ↓reduceIte, Nat.reduceAdd, wI64, wI32, wI16, wI8, wU8, List.length_map, Int.toNat_natCast, plcL_len, i64s_set, i64s_rep, List.length_replicate]; rfl)
  refine awp_seq ?_
  refine awp_seq ?_
  refine r1 T0_ok hP hm hN ?_
  refine g1 ?_ (hst := by simp +decide (disch := omega) only [nrm, lk_nrm, dc_nrm, mk_nrm, mf_nrm, ti_nrm, ls_nrm, mp_nrm, nb_nrm, hset, pick_and, pick_or, ↓reduceIte, Nat.reduceAdd, wI64, wI32, wI16, wI8, wU8, List.length_map, Int.toNat_natCast, plcL_len, i64s_set, i64s_rep, List.length_replicate]; rfl)
  refine gc1 ?_ (call1 ok_I_sortedPlaces _ [] (hpre := by (try dsimp only); omega)) (hst := by simp +decide (disch := omega) only [nrm, lk_nrm, dc_nrm, mk_nrm, mf_nrm, ti_nrm, ls_nrm, mp_nrm, nb_nrm, hset, pick_and, pick_or, ↓reduceIte, Nat.reduceAdd, wI64, wI32, wI16, wI8, wU8, List.length_map, Int.toNat_natCast, plcL_len, i64s_set, i64s_rep, List.length_replicate]; rfl)
  refine g1 ?_ (hst := by simp +decide (disch := omega) only [nrm, lk_nrm, dc_nrm, mk_nrm, mf_nrm, ti_nrm, ls_nrm, mp_nrm, nb_nrm, hset, pick_and, pick_or, ↓reduceIte, Nat.reduceAdd, wI64, wI32, wI16, wI8, wU8, List.length_map, Int.toNat_natCast, plcL_len, i64s_set, i64s_rep, List.length_replicate]; rfl)
  refine g1 ?_ (hst := by simp +decide (disch := omega) only [nrm, lk_nrm, dc_nrm, mk_nrm, mf_nrm, ti_nrm, ls_nrm, mp_nrm, nb_nrm, hset, pick_and, pick_or, ↓reduceIte, Nat.reduceAdd, wI64, wI32, wI16, wI8, wU8, List.length_map, Int.toNat_natCast, plcL_len, i64s_set, i64s_rep, List.length_replicate]; rfl)
  refine awp_block ?_
  refine awp_loop (fun n st => ∃ i : Nat, i ≤ xs.length ∧ n = xs.length - i ∧ st = ⟨[(14, .val (.int .i64 ((i : Nat) : Int))), (13, .val (.int .i64 ((xs.length : Nat) : Int))), (12, .own 1), (5, .val (.int .i64 (lastP (plcL xs) i))), (4, .val (.int .i64 (psP (plcL xs) i))), (3, .own 0), (0, .sl 8 (bks xs))], [(1, ⟨3, 1, false, i64s (plcL xs)⟩), (0, ⟨2, 1, false, i64s (psL xs.length (plcL xs) i)⟩)], 2⟩) (xs.length) ⟨_, (by rw [show psL xs.length (plcL xs) 0 = List.replicate xs.length 0 from rfl]; exact weak_sl (sub_cons rfl (sub_cons rfl (sub_cons rfl (sub_cons rfl (sub_cons rfl (sub_cons rfl (sub_cons rfl (sub_nil))))))))), 0, by omega, rfl, rfl⟩ ?_
  rintro n st ⟨i, hii, hni, rfl⟩
  have hcb := psP_b (plcL xs) i
  have hlb := lastP_b hIv hii
  have hpsl := psL_len xs.length (plcL xs) i
  refine awp_seq ?_
  refine r1 T0_ok hP hm hN ?_
  refine g1 ?_ (hst := by simp +decide (disch := omega) only [nrm, lk_nrm, dc_nrm, mk_nrm, mf_nrm, ti_nrm, ls_nrm, mp_nrm, nb_nrm, hset, pick_and, pick_or, ↓reduceIte, Nat.reduceAdd, wI64, wI32, wI16, wI8, wU8, List.length_map, Int.toNat_natCast, plcL_len, i64s_set, i64s_rep, List.length_replicate]; rfl)
  refine awp_seq ?_
  refine awp_cond rfl (fun hc0 => ?_) (fun hc0 => ?_)
  · skip
    have hlti : i < xs.length := by simpa using hc0
    have hpb := plcL_b xs hlti
    refine awp_skip ?_
    refine awp_seq ?_
    refine awp_block ?_
    refine awp_seq ?_
    refine r1 T0_ok hP hm hN ?_
    refine g1 ?_ (hst := by simp +decide (disch := omega) only [nrm, lk_nrm, dc_nrm, mk_nrm, mf_nrm, ti_nrm, ls_nrm, mp_nrm, nb_nrm, hset, pick_and, pick_or, ↓reduceIte, Nat.reduceAdd, wI64, wI32, wI16, wI8, wU8, List.length_map, Int.toNat_natCast, plcL_len, i64s_set, i64s_rep, List.length_replicate]; rfl)
    refine g1 ?_ (hst := by simp +decide (disch := omega) only [nrm, lk_nrm, dc_nrm, mk_nrm, mf_nrm, ti_nrm, ls_nrm, mp_nrm, nb_nrm, hset, pick_and, pick_or, ↓reduceIte, Nat.reduceAdd, wI64, wI32, wI16, wI8, wU8, List.length_map, Int.toNat_natCast, plcL_len, i64s_set, i64s_rep, List.length_replicate]; rfl)
    refine g1 ?_ (hst := by simp +decide (disch := omega) only [nrm, lk_nrm, dc_nrm, mk_nrm, mf_nrm, ti_nrm, ls_nrm, mp_nrm, nb_nrm, hset, pick_and, pick_or, ↓reduceIte, Nat.reduceAdd, wI64, wI32, wI16, wI8, wU8, List.length_map, Int.toNat_natCast, plcL_len, i64s_set, i64s_rep, List.length_replicate]; rfl)
    refine awp_seq ?_
    refine awp_seq ?_
    refine r1 T0_ok hP hm hN ?_
    refine g1 ?_ (hst := by simp +decide (disch := omega) only [nrm, lk_nrm, dc_nrm, mk_nrm, mf_nrm, ti_nrm, ls_nrm, mp_nrm, nb_nrm, hset, pick_and, pick_or, ↓reduceIte, Nat.reduceAdd, wI64, wI32, wI16, wI8, wU8, List.length_map, Int.toNat_natCast, plcL_len, i64s_set, i64s_rep, List.length_replicate]; rfl)
    refine g1 ?_ (hst := by simp +decide (disch := omega) only [nrm, lk_nrm, dc_nrm, mk_nrm, mf_nrm, ti_nrm, ls_nrm, mp_nrm, nb_nrm, hset, pick_and, pick_or, ↓reduceIte, Nat.reduceAdd, wI64, wI32, wI16, wI8, wU8, List.length_map, Int.toNat_natCast, plcL_len, i64s_set, i64s_rep, List.length_replicate]; rfl)
    refine g1 ?_ (hst := by simp +decide (disch := omega) only [nrm, lk_nrm, dc_nrm, mk_nrm, mf_nrm, ti_nrm, ls_nrm, mp_nrm, nb_nrm, hset, pick_and, pick_or, ↓reduceIte, Nat.reduceAdd, wI64, wI32, wI16, wI8, wU8, List.length_map, Int.toNat_natCast, plcL_len, i64s_set, i64s_rep, List.length_replicate]; rfl)
    refine awp_cond rfl (fun hc1 => ?_) (fun hc1 => ?_)
    · skip
      have hps : psP (plcL xs) (i + 1) = psP (plcL xs) i + 1 := by rw [psP, if_pos (by simpa using hc1)]
      refine r1 T0_ok hP hm hN ?_
      refine g1 ?_ (hst := by simp +decide (disch := omega) only [nrm, lk_nrm, dc_nrm, mk_nrm, mf_nrm, ti_nrm, ls_nrm, mp_nrm, nb_nrm, hset, pick_and, pick_or, ↓reduceIte, Nat.reduceAdd, wI64, wI32, wI16, wI8, wU8, List.length_map, Int.toNat_natCast, plcL_len, i64s_set, i64s_rep, List.length_replicate]; rfl)
      refine g1 ?_ (hst := by simp +decide (disch := omega) only [nrm, lk_nrm, dc_nrm, mk_nrm, mf_nrm, ti_nrm, ls_nrm, mp_nrm, nb_nrm, hset, pick_and, pick_or, ↓reduceIte, Nat.reduceAdd, wI64, wI32, wI16, wI8, wU8, List.length_map, Int.toNat_natCast, plcL_len, i64s_set, i64s_rep, List.length_replicate]; rfl)
      refine g1 ?_ (hst := by simp +decide (disch := omega) only [nrm, lk_nrm, dc_nrm, mk_nrm, mf_nrm, ti_nrm, ls_nrm, mp_nrm, nb_nrm, hset, pick_and, pick_or, ↓reduceIte, Nat.reduceAdd, wI64, wI32, wI16, wI8, wU8, List.length_map, Int.toNat_natCast, plcL_len, i64s_set, i64s_rep, List.length_replicate]; rfl)
      refine awp_seq ?_
      refine r1 T0_ok hP hm hN ?_
      refine g1 ?_ (hst := by simp +decide (disch := omega) only [nrm, lk_nrm, dc_nrm, mk_nrm, mf_nrm, ti_nrm, ls_nrm, mp_nrm, nb_nrm, hset, pick_and, pick_or, ↓reduceIte, Nat.reduceAdd, wI64, wI32, wI16, wI8, wU8, List.length_map, Int.toNat_natCast, plcL_len, i64s_set, i64s_rep, List.length_replicate]; rfl)
      refine g1 ?_ (hst := by simp +decide (disch := omega) only [nrm, lk_nrm, dc_nrm, mk_nrm, mf_nrm, ti_nrm, ls_nrm, mp_nrm, nb_nrm, hset, pick_and, pick_or, ↓reduceIte, Nat.reduceAdd, wI64, wI32, wI16, wI8, wU8, List.length_map, Int.toNat_natCast, plcL_len, i64s_set, i64s_rep, List.length_replicate]; rfl)
      refine g1 ?_ (hst := by simp +decide (disch := omega) only [nrm, lk_nrm, dc_nrm, mk_nrm, mf_nrm, ti_nrm, ls_nrm, mp_nrm, nb_nrm, hset, pick_and, pick_or, ↓reduceIte, Nat.reduceAdd, wI64, wI32, wI16, wI8, wU8, List.length_map, Int.toNat_natCast, plcL_len, i64s_set, i64s_rep, List.length_replicate]; rfl)
      refine g1 ?_ (hst := by simp +decide (disch := omega) only [nrm, lk_nrm, dc_nrm, mk_nrm, mf_nrm, ti_nrm, ls_nrm, mp_nrm, nb_nrm, hset, pick_and, pick_or, ↓reduceIte, Nat.reduceAdd, wI64, wI32, wI16, wI8, wU8, List.length_map, Int.toNat_natCast, plcL_len, i64s_set, i64s_rep, List.length_replicate]; rfl)
      refine g1 ?_ (hst := by simp +decide (disch := omega) only [nrm, lk_nrm, dc_nrm, mk_nrm, mf_nrm, ti_nrm, ls_nrm, mp_nrm, nb_nrm, hset, pick_and, pick_or, ↓reduceIte, Nat.reduceAdd, wI64, wI32, wI16, wI8, wU8, List.length_map, Int.toNat_natCast, plcL_len, i64s_set, i64s_rep, List.length_replicate]; rfl)
      refine r1 T0_ok hP hm hN ?_
      refine g1 ?_ (hst := by simp +decide (disch := omega) only [nrm, lk_nrm, dc_nrm, mk_nrm, mf_nrm, ti_nrm, ls_nrm, mp_nrm, nb_nrm, hset, pick_and, pick_or, ↓reduceIte, Nat.reduceAdd, wI64, wI32, wI16, wI8, wU8, List.length_map, Int.toNat_natCast, plcL_len, i64s_set, i64s_rep, List.length_replicate]; rfl)
      refine g1 ?_ (hst := by simp +decide (disch := omega) only [nrm, lk_nrm, dc_nrm, mk_nrm, mf_nrm, ti_nrm, ls_nrm, mp_nrm, nb_nrm, hset, pick_and, pick_or, ↓reduceIte, Nat.reduceAdd, wI64, wI32, wI16, wI8, wU8, List.length_map, Int.toNat_natCast, plcL_len, i64s_set, i64s_rep, List.length_replicate]; rfl)
      refine r1 T0_ok hP hm hN ?_
      refine g1 ?_ (hst := by simp +decide (disch := omega) only [nrm, lk_nrm, dc_nrm, mk_nrm, mf_nrm, ti_nrm, ls_nrm, mp_nrm, nb_nrm, hset, pick_and, pick_or, ↓reduceIte, Nat.reduceAdd, wI64, wI32, wI16, wI8, wU8, List.length_map, Int.toNat_natCast, plcL_len, i64s_set, i64s_rep, List.length_replicate]; rfl)
      refine g1 ?_ (hst := by simp +decide (disch := omega) only [nrm, lk_nrm, dc_nrm, mk_nrm, mf_nrm, ti_nrm, ls_nrm, mp_nrm, nb_nrm, hset, pick_and, pick_or, ↓reduceIte, Nat.reduceAdd, wI64, wI32, wI16, wI8, wU8, List.length_map, Int.toNat_natCast, plcL_len, i64s_set, i64s_rep, List.length_replicate]; rfl)
      refine ⟨xs.length - (i + 1), _, by omega, (by rw [psL, lastP_suc, hps]; exact weak_sl (sub_cons rfl (sub_cons rfl (sub_cons rfl (sub_cons rfl (sub_cons rfl (sub_cons rfl (sub_cons rfl (sub_nil))))))))), i + 1, by omega, rfl, rfl⟩
    · skip
      have hps : psP (plcL xs) (i + 1) = psP (plcL xs) i := by rw [psP, if_neg (by simpa using hc1)]
      refine awp_skip ?_
      refine awp_seq ?_
      refine r1 T0_ok hP hm hN ?_
      refine g1 ?_ (hst := by simp +decide (disch := omega) only [nrm, lk_nrm, dc_nrm, mk_nrm, mf_nrm, ti_nrm, ls_nrm, mp_nrm, nb_nrm, hset, pick_and, pick_or, ↓reduceIte, Nat.reduceAdd, wI64, wI32, wI16, wI8, wU8, List.length_map, Int.toNat_natCast, plcL_len, i64s_set, i64s_rep, List.length_replicate]; rfl)
      refine g1 ?_ (hst := by simp +decide (disch := omega) only [nrm, lk_nrm, dc_nrm, mk_nrm, mf_nrm, ti_nrm, ls_nrm, mp_nrm, nb_nrm, hset, pick_and, pick_or, ↓reduceIte, Nat.reduceAdd, wI64, wI32, wI16, wI8, wU8, List.length_map, Int.toNat_natCast, plcL_len, i64s_set, i64s_rep, List.length_replicate]; rfl)
      refine g1 ?_ (hst := by simp +decide (disch := omega) only [nrm, lk_nrm, dc_nrm, mk_nrm, mf_nrm, ti_nrm, ls_nrm, mp_nrm, nb_nrm, hset, pick_and, pick_or, ↓reduceIte, Nat.reduceAdd, wI64, wI32, wI16, wI8, wU8, List.length_map, Int.toNat_natCast, plcL_len, i64s_set, i64s_rep, List.length_replicate]; rfl)
      refine g1 ?_ (hst := by simp +decide (disch := omega) only [nrm, lk_nrm, dc_nrm, mk_nrm, mf_nrm, ti_nrm, ls_nrm, mp_nrm, nb_nrm, hset, pick_and, pick_or, ↓reduceIte, Nat.reduceAdd, wI64, wI32, wI16, wI8, wU8, List.length_map, Int.toNat_natCast, plcL_len, i64s_set, i64s_rep, List.length_replicate]; rfl)
      refine g1 ?_ (hst := by simp +decide (disch := omega) only [nrm, lk_nrm, dc_nrm, mk_nrm, mf_nrm, ti_nrm, ls_nrm, mp_nrm, nb_nrm, hset, pick_and, pick_or, ↓reduceIte, Nat.reduceAdd, wI64, wI32, wI16, wI8, wU8, List.length_map, Int.toNat_natCast, plcL_len, i64s_set, i64s_rep, List.length_replicate]; rfl)
      refine r1 T0_ok hP hm hN ?_
      refine g1 ?_ (hst := by simp +decide (disch := omega) only [nrm, lk_nrm, dc_nrm, mk_nrm, mf_nrm, ti_nrm, ls_nrm, mp_nrm, nb_nrm, hset, pick_and, pick_or, ↓reduceIte, Nat.reduceAdd, wI64, wI32, wI16, wI8, wU8, List.length_map, Int.toNat_natCast, plcL_len, i64s_set, i64s_rep, List.length_replicate]; rfl)
      refine g1 ?_ (hst := by simp +decide (disch := omega) only [nrm, lk_nrm, dc_nrm, mk_nrm, mf_nrm, ti_nrm, ls_nrm, mp_nrm, nb_nrm, hset, pick_and, pick_or, ↓reduceIte, Nat.reduceAdd, wI64, wI32, wI16, wI8, wU8, List.length_map, Int.toNat_natCast, plcL_len, i64s_set, i64s_rep, List.length_replicate]; rfl)
      refine r1 T0_ok hP hm hN ?_
      refine g1 ?_ (hst := by simp +decide (disch := omega) only [nrm, lk_nrm, dc_nrm, mk_nrm, mf_nrm, ti_nrm, ls_nrm, mp_nrm, nb_nrm, hset, pick_and, pick_or, ↓reduceIte, Nat.reduceAdd, wI64, wI32, wI16, wI8, wU8, List.length_map, Int.toNat_natCast, plcL_len, i64s_set, i64s_rep, List.length_replicate]; rfl)
      refine g1 ?_ (hst := by simp +decide (disch := omega) only [nrm, lk_nrm, dc_nrm, mk_nrm, mf_nrm, ti_nrm, ls_nrm, mp_nrm, nb_nrm, hset, pick_and, pick_or, ↓reduceIte, Nat.reduceAdd, wI64, wI32, wI16, wI8, wU8, List.length_map, Int.toNat_natCast, plcL_len, i64s_set, i64s_rep, List.length_replicate]; rfl)
      refine ⟨xs.length - (i + 1), _, by omega, (by rw [psL, lastP_suc, hps]; exact weak_sl (sub_cons rfl (sub_cons rfl (sub_cons rfl (sub_cons rfl (sub_cons rfl (sub_cons rfl (sub_cons rfl (sub_nil))))))))), i + 1, by omega, rfl, rfl⟩
  · skip
    have hgei : ¬ i < xs.length := by simpa using hc0
    obtain rfl : i = xs.length := by omega
    refine awp_exit ?_
    repeat refine thenA_exit ?_
    refine blockA_hit ?_
    refine awp_seq ?_
    refine r1 T0_ok hP hm hN ?_
    refine g1 ?_ (hst := by simp +decide (disch := omega) only [nrm, lk_nrm, dc_nrm, mk_nrm, mf_nrm, ti_nrm, ls_nrm, mp_nrm, nb_nrm, hset, pick_and, pick_or, ↓reduceIte, Nat.reduceAdd, wI64, wI32, wI16, wI8, wU8, List.length_map, Int.toNat_natCast, plcL_len, i64s_set, i64s_rep, List.length_replicate]; rfl)
    refine g1 ?_ (hst := by simp +decide (disch := omega) only [nrm, lk_nrm, dc_nrm, mk_nrm, mf_nrm, ti_nrm, ls_nrm, mp_nrm, nb_nrm, hset, pick_and, pick_or, ↓reduceIte, Nat.reduceAdd, wI64, wI32, wI16, wI8, wU8, List.length_map, Int.toNat_natCast, plcL_len, i64s_set, i64s_rep, List.length_replicate]; rfl)
    refine awp_ret ?_
    refine fin_mk [0] rfl rfl ?_ (objs_cons rfl rfl rfl rfl rfl (.inl rfl) objs_nil) (by decide)
    rfl

noncomputable abbrev s_S_l03Passes : Spec (List Bk) where
  args := fun xs => [.sl 8 (bks xs)]
  pre := fun xs => (∀ b ∈ xs, isBk b) ∧ xs.length ≤ 1048576
  new := fun xs => [⟨2, 1, false, i64s (passL xs)⟩]
  res := fun xs => .own 0

set_option maxRecDepth 20000 in
set_option maxHeartbeats 4000000 in
theorem ok_S_l03Passes : FnOk Pr 24 s_S_l03Passes := by
  refine fn_ok 1 0 T0_ok Go.Proofs.Try.func24 rfl (enters_of Go.Proofs.Try.func24 rfl rfl) (fun _ => rfl) (fun _ => rfl) (fun _ => rfl) ?_
  rintro xs ⟨hv, hl⟩ C hP hN hm hG
  change awp C _ _ ⟨[(0, .sl 8 (bks xs))], [], 0⟩
  have hIv := inv_rk xs
  have hpl := plcL_len xs
  have hrl : (rkL xs).length = xs.length := rkR_len xs xs.length
  refine awp_seq ?_
  refine r1 T0_ok hP hm hN ?_
  refine g1 ?_ (hst := by simp +decide (disch := omega) only [nrm, lk_nrm, dc_nrm, mk_nrm, mf_nrm, ti_nrm, ls_nrm, mp_nrm, nb_nrm, hset, pick_and, pick_or, ↓reduceIte, Nat.reduceAdd, wI64, wI32, wI16, wI8, wU8, List.length_map, Int.toNat_natCast, i64s_set, i64s_rep, List.length_replicate]; rfl)
  refine awp_seq ?_
  refine r1 T0_ok hP hm hN ?_
  refine g1 ?_ (hst := by simp +decide (disch := omega) only [nrm, lk_nrm, dc_nrm, mk_nrm, mf_nrm, ti_nrm, ls_nrm, mp_nrm, nb_nrm, hset, pick_and, pick_or, ↓reduceIte, Nat.reduceAdd, wI64, wI32, wI16, wI8, wU8, List.length_map, Int.toNat_natCast, i64s_set, i64s_rep, List.length_replicate]; rfl)
  refine gc1 ?_ (call1 ok_S_l03Ranks _ [] (hpre := by (try dsimp only); exact ⟨hv, hl⟩)) (hst := by simp +decide (disch := omega) only [nrm, lk_nrm, dc_nrm, mk_nrm, mf_nrm, ti_nrm, ls_nrm, mp_nrm, nb_nrm, hset, pick_and, pick_or, ↓reduceIte, Nat.reduceAdd, wI64, wI32, wI16, wI8, wU8, List.length_map, Int.toNat_natCast, i64s_set, i64s_rep, List.length_replicate]; rfl)
  refine g1 ?_ (hst := by simp +decide (disch := omega) only [nrm, lk_nrm, dc_nrm, mk_nrm, mf_nrm, ti_nrm, ls_nrm, mp_nrm, nb_nrm, hset, pick_and, pick_or, ↓reduceIte, Nat.reduceAdd, wI64, wI32, wI16, wI8, wU8, List.length_map, Int.toNat_natCast, i64s_set, i64s_rep, List.length_replicate]; rfl)
  refine awp_seq ?_
  refine r1 T0_ok hP hm hN ?_
  refine g1 ?_ (hst := by simp +decide (disch := omega) only [nrm, lk_nrm, dc_nrm, mk_nrm, mf_nrm, ti_nrm, ls_nrm, mp_nrm, nb_nrm, hset, pick_and, pick_or, ↓reduceIte, Nat.reduceAdd, wI64, wI32, wI16, wI8, wU8, List.length_map, Int.toNat_natCast, i64s_set, i64s_rep, List.length_replicate]; rfl)
  refine g1 ?_ (hst := by simp +decide (disch := omega) only [nrm, lk_nrm, dc_nrm, mk_nrm, mf_nrm, ti_nrm, ls_nrm, mp_nrm, nb_nrm, hset, pick_and, pick_or, ↓reduceIte, Nat.reduceAdd, wI64, wI32, wI16, wI8, wU8, List.length_map, Int.toNat_natCast, i64s_set, i64s_rep, List.length_replicate]; rfl)
  refine g1 ?_ (hst := by simp +decide (disch := omega) only [nrm, lk_nrm, dc_nrm, mk_nrm, mf_nrm, ti_nrm, ls_nrm, mp_nrm, nb_nrm, hset, pick_and, pick_or, ↓reduceIte, Nat.reduceAdd, wI64, wI32, wI16, wI8, wU8, List.length_map, Int.toNat_natCast, i64s_set, i64s_rep, List.length_replicate]; rfl)
  refine g1 ?_ (hst := by simp +decide (disch := omega) only [nrm, lk_nrm, dc_nrm, mk_nrm, mf_nrm, ti_nrm, ls_nrm, mp_nrm, nb_nrm, hset, pick_and, pick_or, ↓reduceIte, Nat.reduceAdd, wI64, wI32, wI16, wI8, wU8, List.length_map, Int.toNat_natCast, i64s_set, i64s_rep, List.length_replicate]; rfl)
  refine awp_seq ?_
  refine r1 T0_ok hP hm hN ?_
  refine g1 ?_ (hst := by simp +decide (disch := omega) only [nrm, lk_nrm, dc_nrm, mk_nrm, mf_nrm, ti_nrm, ls_nrm, mp_nrm, nb_nrm, hset, pick_and, pick_or, ↓reduceIte, Nat.reduceAdd, wI64, wI32, wI16, wI8, wU8, List.length_map, Int.toNat_natCast, i64s_set, i64s_rep, List.length_replicate]; rfl)
  refine awp_seq ?_
  refine awp_seq ?_
  refine r1 T0_ok hP hm hN ?_
  refine g1 ?_ (hst := by simp +decide (disch := omega) only [nrm, lk_nrm, dc_nrm, mk_nrm, mf_nrm, ti_nrm, ls_nrm, mp_nrm, nb_nrm, hset, pick_and, pick_or, ↓reduceIte, Nat.reduceAdd, wI64, wI32, wI16, wI8, wU8, List.length_map, Int.toNat_natCast, i64s_set, i64s_rep, List.length_replicate]; rfl)
  refine awp_block ?_
  refine awp_loop (fun n st => ∃ (r : Nat) (p : Int), r ≤ xs.length ∧ (1 ≤ p ∧ p ≤ r + 1) ∧ InPass xs.length (plcL xs) r 0 p ∧ n = xs.length - r ∧ st = ⟨[(6, .val (.int .i64 p)), (5, .val (.int .i64 ((r : Nat) : Int))), (4, .own 1), (3, .own 0), (0, .sl 8 (bks xs))], [(1, ⟨2, 1, false, i64s (psL xs.length (plcL xs) r)⟩), (0, ⟨2, 1, false, i64s (rkL xs)⟩)], 2⟩) xs.length ⟨_, (by rw [show psL xs.length (plcL xs) 0 = List.replicate xs.length 0 from rfl]; exact weak_sl (sub_cons rfl (sub_cons rfl (sub_cons rfl (sub_cons rfl (sub_cons rfl (sub_nil))))))), 0, 1, by omega, by omega, inPass_0 hIv, rfl, rfl⟩ ?_
  rintro n st ⟨r0, p, hr0, hp, hP0, hn, rfl⟩
  refine awp_seq ?_
  refine awp_seq ?_
  refine r1 T0_ok hP hm hN ?_
  refine g1 ?_ (hst := by simp +decide (disch := omega) only [nrm, lk_nrm, dc_nrm, mk_nrm, mf_nrm, ti_nrm, ls_nrm, mp_nrm, nb_nrm, hset, pick_and, pick_or, ↓reduceIte, Nat.reduceAdd, wI64, wI32, wI16, wI8, wU8, List.length_map, Int.toNat_natCast, i64s_set, i64s_rep, List.length_replicate]; rfl)
  refine g1 ?_ (hst := by simp +decide (disch := omega) only [nrm, lk_nrm, dc_nrm, mk_nrm, mf_nrm, ti_nrm, ls_nrm, mp_nrm, nb_nrm, hset, pick_and, pick_or, ↓reduceIte, Nat.reduceAdd, wI64, wI32, wI16, wI8, wU8, List.length_map, Int.toNat_natCast, i64s_set, i64s_rep, List.length_replicate]; rfl)
  refine g1 ?_ (hst := by simp +decide (disch := omega) only [nrm, lk_nrm, dc_nrm, mk_nrm, mf_nrm, ti_nrm, ls_nrm, mp_nrm, nb_nrm, hset, pick_and, pick_or, ↓reduceIte, Nat.reduceAdd, wI64, wI32, wI16, wI8, wU8, List.length_map, Int.toNat_natCast, i64s_set, i64s_rep, List.length_replicate]; rfl)
  refine g1 ?_ (hst := by simp +decide (disch := omega) only [nrm, lk_nrm, dc_nrm, mk_nrm, mf_nrm, ti_nrm, ls_nrm, mp_nrm, nb_nrm, hset, pick_and, pick_or, ↓reduceIte, Nat.reduceAdd, wI64, wI32, wI16, wI8, wU8, List.length_map, Int.toNat_natCast, i64s_set, i64s_rep, List.length_replicate]; rfl)
  refine awp_cond rfl (fun hc0 => ?_) (fun hc0 => ?_)
  · skip
    have hlt0 : r0 < xs.length := by simpa using hc0
    refine awp_skip ?_
    refine awp_seq ?_
    refine awp_block ?_
    refine awp_seq ?_
    refine r1 T0_ok hP hm hN ?_
    refine g1 ?_ (hst := by simp +decide (disch := omega) only [nrm, lk_nrm, dc_nrm, mk_nrm, mf_nrm, ti_nrm, ls_nrm, mp_nrm, nb_nrm, hset, pick_and, pick_or, ↓reduceIte, Nat.reduceAdd, wI64, wI32, wI16, wI8, wU8, List.length_map, Int.toNat_natCast, i64s_set, i64s_rep, List.length_replicate]; rfl)
    refine awp_block ?_
    refine awp_loop (fun n st => ∃ (i r : Nat), i ≤ xs.length ∧ r0 ≤ r ∧ r ≤ xs.length ∧ (r = r0 → r0 < xs.length → (i : Int) ≤ (plcL xs).getD r0 0) ∧ InPass xs.length (plcL xs) r i p ∧ n = xs.length - i ∧ st = ⟨[(7, .val (.int .i64 ((i : Nat) : Int))), (6, .val (.int .i64 p)), (5, .val (.int .i64 ((r : Nat) : Int))), (4, .own 1), (3, .own 0), (0, .sl 8 (bks xs))], [(1, ⟨2, 1, false, i64s (psL xs.length (plcL xs) r)⟩), (0, ⟨2, 1, false, i64s (rkL xs)⟩)], 2⟩) xs.length ⟨_, weak_sl (sub_cons rfl (sub_cons rfl (sub_cons rfl (sub_cons rfl (sub_cons rfl (sub_cons rfl (sub_nil))))))), 0, r0, by omega, Nat.le_refl _, hr0, fun _ h => (by have := plcL_b xs h; omega), hP0, rfl, rfl⟩ ?_
    rintro n st ⟨i, r, hi, hrr, hr, hst, hIp, hn2, rfl⟩
    have hpsl := psL_len xs.length (plcL xs) r
    refine awp_seq ?_
    refine awp_seq ?_
    refine r1 T0_ok hP hm hN ?_
    refine g1 ?_ (hst := by simp +decide (disch := omega) only [nrm, lk_nrm, dc_nrm, mk_nrm, mf_nrm, ti_nrm, ls_nrm, mp_nrm, nb_nrm, hset, pick_and, pick_or, ↓reduceIte, Nat.reduceAdd, wI64, wI32, wI16, wI8, wU8, List.length_map, Int.toNat_natCast, i64s_set, i64s_rep, List.length_replicate]; rfl)
    refine g1 ?_ (hst := by simp +decide (disch := omega) only [nrm, lk_nrm, dc_nrm, mk_nrm, mf_nrm, ti_nrm, ls_nrm, mp_nrm, nb_nrm, hset, pick_and, pick_or, ↓reduceIte, Nat.reduceAdd, wI64, wI32, wI16, wI8, wU8, List.length_map, Int.toNat_natCast, i64s_set, i64s_rep, List.length_replicate]; rfl)
    refine g1 ?_ (hst := by simp +decide (disch := omega) only [nrm, lk_nrm, dc_nrm, mk_nrm, mf_nrm, ti_nrm, ls_nrm, mp_nrm, nb_nrm, hset, pick_and, pick_or, ↓reduceIte, Nat.reduceAdd, wI64, wI32, wI16, wI8, wU8, List.length_map, Int.toNat_natCast, i64s_set, i64s_rep, List.length_replicate]; rfl)
    refine g1 ?_ (hst := by simp +decide (disch := omega) only [nrm, lk_nrm, dc_nrm, mk_nrm, mf_nrm, ti_nrm, ls_nrm, mp_nrm, nb_nrm, hset, pick_and, pick_or, ↓reduceIte, Nat.reduceAdd, wI64, wI32, wI16, wI8, wU8, List.length_map, Int.toNat_natCast, i64s_set, i64s_rep, List.length_replicate]; rfl)
    refine awp_cond rfl (fun h22 => ?_) (fun h22 => ?_)
    · skip
      have hlti : i < xs.length := by rw [← hrl]; simpa using h22
      refine awp_skip ?_
      refine awp_seq ?_
      refine awp_block ?_
      refine awp_seq ?_
      refine r1 T0_ok hP hm hN ?_
      refine g1 ?_ (hst := by simp +decide (disch := omega) only [nrm, lk_nrm, dc_nrm, mk_nrm, mf_nrm, ti_nrm, ls_nrm, mp_nrm, nb_nrm, hset, pick_and, pick_or, ↓reduceIte, Nat.reduceAdd, wI64, wI32, wI16, wI8, wU8, List.length_map, Int.toNat_natCast, i64s_set, i64s_rep, List.length_replicate]; rfl)
      refine g1 ?_ (hst := by simp +decide (disch := omega) only [nrm, lk_nrm, dc_nrm, mk_nrm, mf_nrm, ti_nrm, ls_nrm, mp_nrm, nb_nrm, hset, pick_and, pick_or, ↓reduceIte, Nat.reduceAdd, wI64, wI32, wI16, wI8, wU8, List.length_map, Int.toNat_natCast, i64s_set, i64s_rep, List.length_replicate]; rfl)
      refine g1 ?_ (hst := by simp +decide (disch := omega) only [nrm, lk_nrm, dc_nrm, mk_nrm, mf_nrm, ti_nrm, ls_nrm, mp_nrm, nb_nrm, hset, pick_and, pick_or, ↓reduceIte, Nat.reduceAdd, wI64, wI32, wI16, wI8, wU8, List.length_map, Int.toNat_natCast, i64s_set, i64s_rep, List.length_replicate]; rfl)
      refine g1 ?_ (hst := by simp +decide (disch := omega) only [nrm, lk_nrm, dc_nrm, mk_nrm, mf_nrm, ti_nrm, ls_nrm, mp_nrm, nb_nrm, hset, pick_and, pick_or, ↓reduceIte, Nat.reduceAdd, wI64, wI32, wI16, wI8, wU8, List.length_map, Int.toNat_natCast, i64s_set, i64s_rep, List.length_replicate]; rfl)
      refine g1 ?_ (hst := by simp +decide (disch := omega) only [nrm, lk_nrm, dc_nrm, mk_nrm, mf_nrm, ti_nrm, ls_nrm, mp_nrm, nb_nrm, hset, pick_and, pick_or, ↓reduceIte, Nat.reduceAdd, wI64, wI32, wI16, wI8, wU8, List.length_map, Int.toNat_natCast, i64s_set, i64s_rep, List.length_replicate]; rfl)
      refine g1 ?_ (hst := by simp +decide (disch := omega) only [nrm, lk_nrm, dc_nrm, mk_nrm, mf_nrm, ti_nrm, ls_nrm, mp_nrm, nb_nrm, hset, pick_and, pick_or, ↓reduceIte, Nat.reduceAdd, wI64, wI32, wI16, wI8, wU8, List.length_map, Int.toNat_natCast, i64s_set, i64s_rep, List.length_replicate]; rfl)
      refine awp_cond rfl (fun h30 => ?_) (fun h30 => ?_)
      · skip
        have hk : (rkL xs).getD i 0 = r := by have h := h30; simp only [beq_iff_eq] at h; exact h
        have hrn : r < xs.length := by have := hIv.rkr hlti; omega
        obtain ⟨hh1, hh2, hh3⟩ := inPass_hit hIv hrn hlti hIp hk
        have hh2 : (plcL xs).getD r 0 = ((i : Nat) : Int) := hh2
        refine awp_seq ?_
        refine r1 T0_ok hP hm hN ?_
        refine g1 ?_ (hst := by simp +decide (disch := omega) only [nrm, lk_nrm, dc_nrm, mk_nrm, mf_nrm, ti_nrm, ls_nrm, mp_nrm, nb_nrm, hset, pick_and, pick_or, ↓reduceIte, Nat.reduceAdd, wI64, wI32, wI16, wI8, wU8, List.length_map, Int.toNat_natCast, i64s_set, i64s_rep, List.length_replicate]; rfl)
        refine g1 ?_ (hst := by simp +decide (disch := omega) only [nrm, lk_nrm, dc_nrm, mk_nrm, mf_nrm, ti_nrm, ls_nrm, mp_nrm, nb_nrm, hset, pick_and, pick_or, ↓reduceIte, Nat.reduceAdd, wI64, wI32, wI16, wI8, wU8, List.length_map, Int.toNat_natCast, i64s_set, i64s_rep, List.length_replicate]; rfl)
        refine g1 ?_ (hst := by simp +decide (disch := omega) only [nrm, lk_nrm, dc_nrm, mk_nrm, mf_nrm, ti_nrm, ls_nrm, mp_nrm, nb_nrm, hset, pick_and, pick_or, ↓reduceIte, Nat.reduceAdd, wI64, wI32, wI16, wI8, wU8, List.length_map, Int.toNat_natCast, i64s_set, i64s_rep, List.length_replicate]; rfl)
        refine g1 ?_ (hst := by simp +decide (disch := omega) only [nrm, lk_nrm, dc_nrm, mk_nrm, mf_nrm, ti_nrm, ls_nrm, mp_nrm, nb_nrm, hset, pick_and, pick_or, ↓reduceIte, Nat.reduceAdd, wI64, wI32, wI16, wI8, wU8, List.length_map, Int.toNat_natCast, i64s_set, i64s_rep, List.length_replicate]; rfl)
        refine g1 ?_ (hst := by simp +decide (disch := omega) only [nrm, lk_nrm, dc_nrm, mk_nrm, mf_nrm, ti_nrm, ls_nrm, mp_nrm, nb_nrm, hset, pick_and, pick_or, ↓reduceIte, Nat.reduceAdd, wI64, wI32, wI16, wI8, wU8, List.length_map, Int.toNat_natCast, i64s_set, i64s_rep, List.length_replicate]; rfl)
        refine r1 T0_ok hP hm hN ?_
        refine g1 ?_ (hst := by simp +decide (disch := omega) only [nrm, lk_nrm, dc_nrm, mk_nrm, mf_nrm, ti_nrm, ls_nrm, mp_nrm, nb_nrm, hset, pick_and, pick_or, ↓reduceIte, Nat.reduceAdd, wI64, wI32, wI16, wI8, wU8, List.length_map, Int.toNat_natCast, i64s_set, i64s_rep, List.length_replicate]; rfl)
        refine g1 ?_ (hst := by simp +decide (disch := omega) only [nrm, lk_nrm, dc_nrm, mk_nrm, mf_nrm, ti_nrm, ls_nrm, mp_nrm, nb_nrm, hset, pick_and, pick_or, ↓reduceIte, Nat.reduceAdd, wI64, wI32, wI16, wI8, wU8, List.length_map, Int.toNat_natCast, i64s_set, i64s_rep, List.length_replicate]; rfl)
        refine g1 ?_ (hst := by simp +decide (disch := omega) only [nrm, lk_nrm, dc_nrm, mk_nrm, mf_nrm, ti_nrm, ls_nrm, mp_nrm, nb_nrm, hset, pick_and, pick_or, ↓reduceIte, Nat.reduceAdd, wI64, wI32, wI16, wI8, wU8, List.length_map, Int.toNat_natCast, i64s_set, i64s_rep, List.length_replicate]; rfl)
        refine r1 T0_ok hP hm hN ?_
        refine g1 ?_ (hst := by simp +decide (disch := omega) only [nrm, lk_nrm, dc_nrm, mk_nrm, mf_nrm, ti_nrm, ls_nrm, mp_nrm, nb_nrm, hset, pick_and, pick_or, ↓reduceIte, Nat.reduceAdd, wI64, wI32, wI16, wI8, wU8, List.length_map, Int.toNat_natCast, i64s_set, i64s_rep, List.length_replicate]; rfl)
        refine g1 ?_ (hst := by simp +decide (disch := omega) only [nrm, lk_nrm, dc_nrm, mk_nrm, mf_nrm, ti_nrm, ls_nrm, mp_nrm, nb_nrm, hset, pick_and, pick_or, ↓reduceIte, Nat.reduceAdd, wI64, wI32, wI16, wI8, wU8, List.length_map, Int.toNat_natCast, i64s_set, i64s_rep, List.length_replicate]; rfl)
        refine g1 ?_ (hst := by simp +decide (disch := omega) only [nrm, lk_nrm, dc_nrm, mk_nrm, mf_nrm, ti_nrm, ls_nrm, mp_nrm, nb_nrm, hset, pick_and, pick_or, ↓reduceIte, Nat.reduceAdd, wI64, wI32, wI16, wI8, wU8, List.length_map, Int.toNat_natCast, i64s_set, i64s_rep, List.length_replicate]; rfl)
        first | exact ⟨_, _, by omega, (by rw [psL, hh2, ← hh1]; exact weak_sl (sub_cons rfl (sub_cons rfl (sub_cons rfl (sub_cons rfl (sub_cons rfl (sub_cons rfl (sub_nil)))))))), i + 1, r + 1, by omega, by omega, by omega, fun h => by omega, hh3, rfl, rfl⟩ | exact ⟨_, _, by omega, weak_sl (sub_cons rfl (sub_cons rfl (sub_cons rfl (sub_cons rfl (sub_cons rfl (sub_cons rfl (sub_nil))))))), i + 1, r, by omega, hrr, hr, hst2, hP2, rfl, rfl⟩
      · skip
        have hk : ¬ (rkL xs).getD i 0 = r := by have h := h30; simp only [beq_eq_false_iff_ne, ne_eq] at h; exact h
        have hP2 := inPass_miss hIv hlti hIp hk
        have hst2 : r = r0 → r0 < xs.length → ((i + 1 : Nat) : Int) ≤ (plcL xs).getD r0 0 := fun h1 h2 => by
          have h3 := hst h1 h2
          have h4 : (plcL xs).getD r0 0 ≠ i := fun e => hk (by rw [h1]; exact (hIv.eq hlti h2).2 e)
          omega
        refine awp_skip ?_
        refine r1 T0_ok hP hm hN ?_
        refine g1 ?_ (hst := by simp +decide (disch := omega) only [nrm, lk_nrm, dc_nrm, mk_nrm, mf_nrm, ti_nrm, ls_nrm, mp_nrm, nb_nrm, hset, pick_and, pick_or, ↓reduceIte, Nat.reduceAdd, wI64, wI32, wI16, wI8, wU8, List.length_map, Int.toNat_natCast, i64s_set, i64s_rep, List.length_replicate]; rfl)
        refine g1 ?_ (hst := by simp +decide (disch := omega) only [nrm, lk_nrm, dc_nrm, mk_nrm, mf_nrm, ti_nrm, ls_nrm, mp_nrm, nb_nrm, hset, pick_and, pick_or, ↓reduceIte, Nat.reduceAdd, wI64, wI32, wI16, wI8, wU8, List.length_map, Int.toNat_natCast, i64s_set, i64s_rep, List.length_replicate]; rfl)
        refine g1 ?_ (hst := by simp +decide (disch := omega) only [nrm, lk_nrm, dc_nrm, mk_nrm, mf_nrm, ti_nrm, ls_nrm, mp_nrm, nb_nrm, hset, pick_and, pick_or, ↓reduceIte, Nat.reduceAdd, wI64, wI32, wI16, wI8, wU8, List.length_map, Int.toNat_natCast, i64s_set, i64s_rep, List.length_replicate]; rfl)
        first | exact ⟨_, _, by omega, (by rw [psL, hh2, ← hh1]; exact weak_sl (sub_cons rfl (sub_cons rfl (sub_cons rfl (sub_cons rfl (sub_cons rfl (sub_cons rfl (sub_nil)))))))), i + 1, r + 1, by omega, by omega, by omega, fun h => by omega, hh3, rfl, rfl⟩ | exact ⟨_, _, by omega, weak_sl (sub_cons rfl (sub_cons rfl (sub_cons rfl (sub_cons rfl (sub_cons rfl (sub_cons rfl (sub_nil))))))), i + 1, r, by omega, hrr, hr, hst2, hP2, rfl, rfl⟩
    · skip
      have hgei : ¬ i < xs.length := by rw [← hrl]; simpa using h22
      obtain rfl : i = xs.length := by omega
      have hprog : r0 < r := by
        rcases Nat.eq_or_lt_of_le hrr with h | h
        · exfalso
          have h1 := hst h.symm hlt0
          have h2 := plcL_b xs hlt0
          omega
        · exact h
      refine awp_exit ?_
      repeat refine thenA_exit ?_
      refine blockA_hit ?_
      refine r1 T0_ok hP hm hN ?_
      refine g1 ?_ (hst := by simp +decide (disch := omega) only [nrm, lk_nrm, dc_nrm, mk_nrm, mf_nrm, ti_nrm, ls_nrm, mp_nrm, nb_nrm, hset, pick_and, pick_or, ↓reduceIte, Nat.reduceAdd, wI64, wI32, wI16, wI8, wU8, List.length_map, Int.toNat_natCast, i64s_set, i64s_rep, List.length_replicate]; rfl)
      refine g1 ?_ (hst := by simp +decide (disch := omega) only [nrm, lk_nrm, dc_nrm, mk_nrm, mf_nrm, ti_nrm, ls_nrm, mp_nrm, nb_nrm, hset, pick_and, pick_or, ↓reduceIte, Nat.reduceAdd, wI64, wI32, wI16, wI8, wU8, List.length_map, Int.toNat_natCast, i64s_set, i64s_rep, List.length_replicate]; rfl)
      refine g1 ?_ (hst := by simp +decide (disch := omega) only [nrm, lk_nrm, dc_nrm, mk_nrm, mf_nrm, ti_nrm, ls_nrm, mp_nrm, nb_nrm, hset, pick_and, pick_or, ↓reduceIte, Nat.reduceAdd, wI64, wI32, wI16, wI8, wU8, List.length_map, Int.toNat_natCast, i64s_set, i64s_rep, List.length_replicate]; rfl)
      exact ⟨_, _, by omega, weak_sl (sub_cons rfl (sub_cons rfl (sub_cons rfl (sub_cons rfl (sub_cons rfl (sub_nil)))))), r, p + 1, hr, by omega, inPass_next hIv hIp, rfl, rfl⟩
  · skip
    have hge0 : ¬ r0 < xs.length := by simpa using hc0
    obtain rfl : r0 = xs.length := by omega
    refine awp_exit ?_
    repeat refine thenA_exit ?_
    refine blockA_hit ?_
    refine awp_seq ?_
    refine r1 T0_ok hP hm hN ?_
    refine g1 ?_ (hst := by simp +decide (disch := omega) only [nrm, lk_nrm, dc_nrm, mk_nrm, mf_nrm, ti_nrm, ls_nrm, mp_nrm, nb_nrm, hset, pick_and, pick_or, ↓reduceIte, Nat.reduceAdd, wI64, wI32, wI16, wI8, wU8, List.length_map, Int.toNat_natCast, i64s_set, i64s_rep, List.length_replicate]; rfl)
    refine g1 ?_ (hst := by simp +decide (disch := omega) only [nrm, lk_nrm, dc_nrm, mk_nrm, mf_nrm, ti_nrm, ls_nrm, mp_nrm, nb_nrm, hset, pick_and, pick_or, ↓reduceIte, Nat.reduceAdd, wI64, wI32, wI16, wI8, wU8, List.length_map, Int.toNat_natCast, i64s_set, i64s_rep, List.length_replicate]; rfl)
    refine awp_ret ?_
    refine fin_mk [1] rfl rfl ?_ (objs_cons rfl rfl rfl rfl rfl (.inl rfl) objs_nil) (by decide)
    rfl

noncomputable abbrev s_S_PassList : Spec (List Bk) where
  args := fun xs => [.sl 8 (bks xs)]
  pre := fun xs => (∀ b ∈ xs, isBk b) ∧ xs.length ≤ 1048576
  new := fun xs => [⟨2, 1, false, i64s (passR xs).1⟩]
  res := fun xs => .tup [.own 0, .val (.int .i64 (passR xs).2)]

set_option maxRecDepth 20000 in
set_option maxHeartbeats 1000000 in
theorem ok_S_PassList : FnOk Pr 8 s_S_PassList := by
  refine fn_ok 1 0 T0_ok Go.Proofs.Try.func8 rfl (enters_of Go.Proofs.Try.func8 rfl rfl) (fun _ => rfl) (fun _ => rfl) (fun _ => rfl) ?_
  rintro xs ⟨hv, hl⟩ C hP hN hm hG
  change awp C _ _ ⟨[(0, .sl 8 (bks xs))], [], 0⟩
  refine awp_seq ?_
  refine r1 T0_ok hP hm hN ?_
  refine g1 ?_
  refine g1 ?_
  refine awp_seq ?_
  refine awp_seq ?_
  refine r1 T0_ok hP hm hN ?_
  refine g1 ?_
  refine gc1 ?_ (call1 ok_S_l01Ok _ [] (hpre := by (try dsimp only); exact ⟨hv, by omega⟩))
  refine g1 ?_
  refine awp_cond rfl (fun hc0 => ?_) (fun hc0 => ?_)
  · skip
    have hr : passR xs = ([], 1) := by rw [passR, if_pos hc0]
    refine awp_seq ?_
    refine r1 T0_ok hP hm hN ?_
    refine g1 ?_
    refine g1 ?_
    refine g1 ?_
    refine awp_ret ?_
    refine fin_mk [0] rfl rfl ?_ (by simp only [hr]; exact objs_cons rfl rfl rfl rfl rfl (.inl rfl) objs_nil) (by decide)
    show D.tup [.own 0, .val (.int .i64 (passR xs).2)] = _
    rw [hr]
    rfl
  · skip
    have hr : passR xs = (passL xs, 0) := by rw [passR, if_neg (by rw [hc0]; simp)]
    have h60 := valid60 hc0
    have hIv := inv_rk xs
    have hpl := plcL_len xs
    have hrl : (rkL xs).length = xs.length := rkR_len xs xs.length
    refine awp_skip ?_
    refine awp_seq ?_
    refine r1 T0_ok hP hm hN ?_
    refine g1 ?_
    refine gc1 ?_ (call1 ok_S_l03Passes _ [] (hpre := by (try dsimp only); exact ⟨hv, hl⟩))
    refine g1 ?_
    refine g1 ?_
    refine awp_ret ?_
    refine fin_mk [0] rfl rfl ?_ (by simp only [hr]; exact objs_cons rfl rfl rfl rfl rfl (.inl rfl) objs_nil) (by decide)
    show D.tup [.own 0, .val (.int .i64 (passR xs).2)] = _
    rw [hr]
    rfl

noncomputable abbrev s_I_PassList : Spec (List Bk) where
  args := fun xs => [.sl 8 (bks xs)]
  pre := fun xs => (∀ b ∈ xs, isBk b) ∧ xs.length ≤ 1048576
  new := fun xs => [⟨2, 1, false, i64s (passR xs).1⟩]
  res := fun xs => .tup [.own 0, .val (.int .i64 (passR xs).2)]

set_option maxRecDepth 20000 in
set_option maxHeartbeats 1000000 in
theorem ok_I_PassList : FnOk Pr 7 s_I_PassList := by
  refine fn_ok 1 0 T0_ok Go.Proofs.Try.func7 rfl (enters_of Go.Proofs.Try.func7 rfl rfl) (fun _ => rfl) (fun _ => rfl) (fun _ => rfl) ?_
  rintro xs ⟨hv, hl⟩ C hP hN hm hG
  change awp C _ _ ⟨[(0, .sl 8 (bks xs))], [], 0⟩
  refine awp_seq ?_
  refine r1 T0_ok hP hm hN ?_
  refine g1 ?_
  refine g1 ?_
  refine awp_seq ?_
  refine awp_seq ?_
  refine r1 T0_ok hP hm hN ?_
  refine g1 ?_
  refine gc1 ?_ (call1 ok_I_ValidBooks _ [] (hpre := by (try dsimp only); omega))
  refine g1 ?_
  refine awp_cond rfl (fun hc0 => ?_) (fun hc0 => ?_)
  · skip
    have hr : passR xs = ([], 1) := by rw [passR, if_pos hc0]
    refine awp_seq ?_
    refine r1 T0_ok hP hm hN ?_
    refine g1 ?_
    refine g1 ?_
    refine awp_weak (weak_nil 2 2 1 rfl) ?_
    refine awp_ret ?_
    refine fin_mk [0] rfl rfl ?_ (by simp only [hr]; exact objs_cons rfl rfl rfl rfl rfl (.inl rfl) objs_nil) (by decide)
    show D.tup [.own 0, .val (.int .i64 (passR xs).2)] = _
    rw [hr]
    rfl
  · skip
    have hr : passR xs = (passL xs, 0) := by rw [passR, if_neg (by rw [hc0]; simp)]
    have h60 := valid60 hc0
    have hIv := inv_rk xs
    have hpl := plcL_len xs
    have hrl : (rkL xs).length = xs.length := rkR_len xs xs.length
    refine awp_skip ?_
    refine awp_seq ?_
    refine r1 T0_ok hP hm hN ?_
    refine g1 ?_
    refine gc1 ?_ (call1 ok_I_passes _ [] (hpre := by (try dsimp only); omega))
    refine g1 ?_
    refine g1 ?_
    refine awp_ret ?_
    refine fin_mk [0] rfl rfl ?_ (by simp only [hr]; exact objs_cons rfl rfl rfl rfl rfl (.inl rfl) objs_nil) (by decide)
    show D.tup [.own 0, .val (.int .i64 (passR xs).2)] = _
    rw [hr]
    rfl

noncomputable abbrev s_slices_Max_int64_int64 : Spec (List Int) where
  args := fun xs => [.sl 1 (i64s xs)]
  pre := fun xs => 1 ≤ xs.length ∧ xs.length ≤ 9223372036854775807
  res := fun xs => .val (.int .i64 (topF (xs.getD 0 0) xs xs.length))

set_option maxRecDepth 20000 in
set_option maxHeartbeats 1000000 in
theorem ok_slices_Max_int64_int64 : FnOk Pr 21 s_slices_Max_int64_int64 := by
  refine fn_ok 1 0 T0_ok Go.Proofs.Try.func21 rfl (enters_of Go.Proofs.Try.func21 rfl rfl) (fun _ => rfl) (fun _ => rfl) (fun _ => rfl) ?_
  rintro xs ⟨h1, hl⟩ C hP hN hm hG
  change awp C _ _ ⟨[(0, .sl 1 (i64s xs))], [], 0⟩
  refine awp_seq ?_
  refine r1 T0_ok hP hm hN ?_
  refine g1 ?_ (hst := by simp +decide (disch := omega) only [nrm, lk_nrm, dc_nrm, mk_nrm, mf_nrm, ti_nrm, ls_nrm, mp_nrm, nb_nrm, hset, pick_and, pick_or, ↓reduceIte, Nat.reduceAdd, wI64, wI32, wI16, wI8, wU8, List.length_map, Int.toNat_natCast, max_nrm]; rfl)
  refine awp_seq ?_
  refine awp_seq ?_
  refine r1 T0_ok hP hm hN ?_
  refine g1 ?_ (hst := by simp +decide (disch := omega) only [nrm, lk_nrm, dc_nrm, mk_nrm, mf_nrm, ti_nrm, ls_nrm, mp_nrm, nb_nrm, hset, pick_and, pick_or, ↓reduceIte, Nat.reduceAdd, wI64, wI32, wI16, wI8, wU8, List.length_map, Int.toNat_natCast, max_nrm]; rfl)
  refine g1 ?_ (hst := by simp +decide (disch := omega) only [nrm, lk_nrm, dc_nrm, mk_nrm, mf_nrm, ti_nrm, ls_nrm, mp_nrm, nb_nrm, hset, pick_and, pick_or, ↓reduceIte, Nat.reduceAdd, wI64, wI32, wI16, wI8, wU8, List.length_map, Int.toNat_natCast, max_nrm]; rfl)
  refine g1 ?_ (hst := by simp +decide (disch := omega) only [nrm, lk_nrm, dc_nrm, mk_nrm, mf_nrm, ti_nrm, ls_nrm, mp_nrm, nb_nrm, hset, pick_and, pick_or, ↓reduceIte, Nat.reduceAdd, wI64, wI32, wI16, wI8, wU8, List.length_map, Int.toNat_natCast, max_nrm]; rfl)
  refine awp_cond rfl (fun hc0 => ?_) (fun hc0 => ?_)
  · skip
    exfalso; simp at hc0; omega
  · skip
    refine awp_skip ?_
    refine awp_seq ?_
    refine r1 T0_ok hP hm hN ?_
    refine g1 ?_ (hst := by simp +decide (disch := omega) only [nrm, lk_nrm, dc_nrm, mk_nrm, mf_nrm, ti_nrm, ls_nrm, mp_nrm, nb_nrm, hset, pick_and, pick_or, ↓reduceIte, Nat.reduceAdd, wI64, wI32, wI16, wI8, wU8, List.length_map, Int.toNat_natCast, max_nrm]; rfl)
    refine g1 ?_ (hst := by simp +decide (disch := omega) only [nrm, lk_nrm, dc_nrm, mk_nrm, mf_nrm, ti_nrm, ls_nrm, mp_nrm, nb_nrm, hset, pick_and, pick_or, ↓reduceIte, Nat.reduceAdd, wI64, wI32, wI16, wI8, wU8, List.length_map, Int.toNat_natCast, max_nrm]; rfl)
    refine g1 ?_ (hst := by simp +decide (disch := omega) only [nrm, lk_nrm, dc_nrm, mk_nrm, mf_nrm, ti_nrm, ls_nrm, mp_nrm, nb_nrm, hset, pick_and, pick_or, ↓reduceIte, Nat.reduceAdd, wI64, wI32, wI16, wI8, wU8, List.length_map, Int.toNat_natCast, max_nrm]; rfl)
    refine g1 ?_ (hst := by simp +decide (disch := omega) only [nrm, lk_nrm, dc_nrm, mk_nrm, mf_nrm, ti_nrm, ls_nrm, mp_nrm, nb_nrm, hset, pick_and, pick_or, ↓reduceIte, Nat.reduceAdd, wI64, wI32, wI16, wI8, wU8, List.length_map, Int.toNat_natCast, max_nrm]; rfl)
    refine awp_seq ?_
    refine awp_seq ?_
    refine r1 T0_ok hP hm hN ?_
    refine g1 ?_ (hst := by simp +decide (disch := omega) only [nrm, lk_nrm, dc_nrm, mk_nrm, mf_nrm, ti_nrm, ls_nrm, mp_nrm, nb_nrm, hset, pick_and, pick_or, ↓reduceIte, Nat.reduceAdd, wI64, wI32, wI16, wI8, wU8, List.length_map, Int.toNat_natCast, max_nrm]; rfl)
    refine awp_block ?_
    refine awp_loop (fun n st => ∃ i : Nat, 1 ≤ i ∧ i ≤ xs.length ∧ n = xs.length - i ∧ st = ⟨[(4, .val (.int .i64 ((i : Nat) : Int))), (3, .val (.int .i64 (topF (xs.getD 0 0) xs i))), (0, .sl 1 (i64s xs))], [], 0⟩) (xs.length - 1) ⟨_, (by rw [show topF (xs.getD 0 0) xs 1 = xs.getD 0 0 by rw [topF, topF, maxI, if_neg (by omega)]]; exact weak_sl (sub_cons rfl (sub_cons rfl (sub_cons rfl (sub_nil))))), 1, Nat.le_refl _, by omega, rfl, rfl⟩ ?_
    rintro n st ⟨i, hi1, hi2, hn, rfl⟩
    refine awp_seq ?_
    refine awp_seq ?_
    refine r1 T0_ok hP hm hN ?_
    refine g1 ?_ (hst := by simp +decide (disch := omega) only [nrm, lk_nrm, dc_nrm, mk_nrm, mf_nrm, ti_nrm, ls_nrm, mp_nrm, nb_nrm, hset, pick_and, pick_or, ↓reduceIte, Nat.reduceAdd, wI64, wI32, wI16, wI8, wU8, List.length_map, Int.toNat_natCast, max_nrm]; rfl)
    refine g1 ?_ (hst := by simp +decide (disch := omega) only [nrm, lk_nrm, dc_nrm, mk_nrm, mf_nrm, ti_nrm, ls_nrm, mp_nrm, nb_nrm, hset, pick_and, pick_or, ↓reduceIte, Nat.reduceAdd, wI64, wI32, wI16, wI8, wU8, List.length_map, Int.toNat_natCast, max_nrm]; rfl)
    refine g1 ?_ (hst := by simp +decide (disch := omega) only [nrm, lk_nrm, dc_nrm, mk_nrm, mf_nrm, ti_nrm, ls_nrm, mp_nrm, nb_nrm, hset, pick_and, pick_or, ↓reduceIte, Nat.reduceAdd, wI64, wI32, wI16, wI8, wU8, List.length_map, Int.toNat_natCast, max_nrm]; rfl)
    refine g1 ?_ (hst := by simp +decide (disch := omega) only [nrm, lk_nrm, dc_nrm, mk_nrm, mf_nrm, ti_nrm, ls_nrm, mp_nrm, nb_nrm, hset, pick_and, pick_or, ↓reduceIte, Nat.reduceAdd, wI64, wI32, wI16, wI8, wU8, List.length_map, Int.toNat_natCast, max_nrm]; rfl)
    refine awp_cond rfl (fun hc1 => ?_) (fun hc1 => ?_)
    · skip
      have hlti : i < xs.length := by simpa using hc1
      refine awp_skip ?_
      refine awp_seq ?_
      refine awp_block ?_
      refine r1 T0_ok hP hm hN ?_
      refine g1 ?_ (hst := by simp +decide (disch := omega) only [nrm, lk_nrm, dc_nrm, mk_nrm, mf_nrm, ti_nrm, ls_nrm, mp_nrm, nb_nrm, hset, pick_and, pick_or, ↓reduceIte, Nat.reduceAdd, wI64, wI32, wI16, wI8, wU8, List.length_map, Int.toNat_natCast, max_nrm]; rfl)
      refine g1 ?_ (hst := by simp +decide (disch := omega) only [nrm, lk_nrm, dc_nrm, mk_nrm, mf_nrm, ti_nrm, ls_nrm, mp_nrm, nb_nrm, hset, pick_and, pick_or, ↓reduceIte, Nat.reduceAdd, wI64, wI32, wI16, wI8, wU8, List.length_map, Int.toNat_natCast, max_nrm]; rfl)
      refine g1 ?_ (hst := by simp +decide (disch := omega) only [nrm, lk_nrm, dc_nrm, mk_nrm, mf_nrm, ti_nrm, ls_nrm, mp_nrm, nb_nrm, hset, pick_and, pick_or, ↓reduceIte, Nat.reduceAdd, wI64, wI32, wI16, wI8, wU8, List.length_map, Int.toNat_natCast, max_nrm]; rfl)
      refine g1 ?_ (hst := by simp +decide (disch := omega) only [nrm, lk_nrm, dc_nrm, mk_nrm, mf_nrm, ti_nrm, ls_nrm, mp_nrm, nb_nrm, hset, pick_and, pick_or, ↓reduceIte, Nat.reduceAdd, wI64, wI32, wI16, wI8, wU8, List.length_map, Int.toNat_natCast, max_nrm]; rfl)
      refine g1 ?_ (hst := by simp +decide (disch := omega) only [nrm, lk_nrm, dc_nrm, mk_nrm, mf_nrm, ti_nrm, ls_nrm, mp_nrm, nb_nrm, hset, pick_and, pick_or, ↓reduceIte, Nat.reduceAdd, wI64, wI32, wI16, wI8, wU8, List.length_map, Int.toNat_natCast, max_nrm]; rfl)
      refine g1 ?_ (hst := by simp +decide (disch := omega) only [nrm, lk_nrm, dc_nrm, mk_nrm, mf_nrm, ti_nrm, ls_nrm, mp_nrm, nb_nrm, hset, pick_and, pick_or, ↓reduceIte, Nat.reduceAdd, wI64, wI32, wI16, wI8, wU8, List.length_map, Int.toNat_natCast, max_nrm]; rfl)
      refine g1 ?_ (hst := by simp +decide (disch := omega) only [nrm, lk_nrm, dc_nrm, mk_nrm, mf_nrm, ti_nrm, ls_nrm, mp_nrm, nb_nrm, hset, pick_and, pick_or, ↓reduceIte, Nat.reduceAdd, wI64, wI32, wI16, wI8, wU8, List.length_map, Int.toNat_natCast, max_nrm]; rfl)
      refine r1 T0_ok hP hm hN ?_
      refine g1 ?_ (hst := by simp +decide (disch := omega) only [nrm, lk_nrm, dc_nrm, mk_nrm, mf_nrm, ti_nrm, ls_nrm, mp_nrm, nb_nrm, hset, pick_and, pick_or, ↓reduceIte, Nat.reduceAdd, wI64, wI32, wI16, wI8, wU8, List.length_map, Int.toNat_natCast, max_nrm]; rfl)
      refine g1 ?_ (hst := by simp +decide (disch := omega) only [nrm, lk_nrm, dc_nrm, mk_nrm, mf_nrm, ti_nrm, ls_nrm, mp_nrm, nb_nrm, hset, pick_and, pick_or, ↓reduceIte, Nat.reduceAdd, wI64, wI32, wI16, wI8, wU8, List.length_map, Int.toNat_natCast, max_nrm]; rfl)
      refine g1 ?_ (hst := by simp +decide (disch := omega) only [nrm, lk_nrm, dc_nrm, mk_nrm, mf_nrm, ti_nrm, ls_nrm, mp_nrm, nb_nrm, hset, pick_and, pick_or, ↓reduceIte, Nat.reduceAdd, wI64, wI32, wI16, wI8, wU8, List.length_map, Int.toNat_natCast, max_nrm]; rfl)
      refine ⟨xs.length - (i + 1), _, by omega, (by rw [topF]; exact weak_sl (sub_cons rfl (sub_cons rfl (sub_cons rfl (sub_nil))))), i + 1, by omega, by omega, rfl, rfl⟩
    · skip
      have hgei : ¬ i < xs.length := by simpa using hc1
      obtain rfl : i = xs.length := by omega
      refine awp_exit ?_
      repeat refine thenA_exit ?_
      refine blockA_hit ?_
      refine awp_seq ?_
      refine r1 T0_ok hP hm hN ?_
      refine g1 ?_ (hst := by simp +decide (disch := omega) only [nrm, lk_nrm, dc_nrm, mk_nrm, mf_nrm, ti_nrm, ls_nrm, mp_nrm, nb_nrm, hset, pick_and, pick_or, ↓reduceIte, Nat.reduceAdd, wI64, wI32, wI16, wI8, wU8, List.length_map, Int.toNat_natCast, max_nrm]; rfl)
      refine g1 ?_ (hst := by simp +decide (disch := omega) only [nrm, lk_nrm, dc_nrm, mk_nrm, mf_nrm, ti_nrm, ls_nrm, mp_nrm, nb_nrm, hset, pick_and, pick_or, ↓reduceIte, Nat.reduceAdd, wI64, wI32, wI16, wI8, wU8, List.length_map, Int.toNat_natCast, max_nrm]; rfl)
      refine awp_ret ?_
      refine fin_mk [] rfl rfl ?_ trivial (by decide)
      rfl


theorem aop_call {m : Nat} {st st' : St} {dst : Option Tmp} {op : Op} {ty : TypeId} {pos : String} {af : Array Edge} {r : Res} (hs : astep T0 op (evD st.sl) st.hp st.nx = none) (hr : OpRel Pr { dst := dst, op := op, type := ty, pos := pos, after := af, guard := none } (evD st.sl) st.hp st.nx r) (hst : st.app dst r = st') : aop Pr T0 m { dst := dst, op := op, type := ty, pos := pos, after := af, guard := none } st (· = st') := by
  simp only [aop, hs]
  exact ⟨r, hr, hst⟩

noncomputable abbrev s_I_PassesOf : Spec (List Bk) where
  args := fun xs => [.sl 8 (bks xs)]
  pre := fun xs => (∀ b ∈ xs, isBk b) ∧ xs.length ≤ 1048576
  res := fun xs => .tup [.val (.int .i64 (passO xs).1), .val (.int .i64 (passO xs).2)]

set_option maxRecDepth 20000 in
set_option maxHeartbeats 4000000 in
theorem ok_I_PassesOf : FnOk Pr 6 s_I_PassesOf := by
  refine fn_ok 1 0 T0_ok Go.Proofs.Try.func6 rfl (enters_of Go.Proofs.Try.func6 rfl rfl) (fun _ => rfl) (fun _ => rfl) (fun _ => rfl) ?_
  rintro xs ⟨hv, hl⟩ C hP hN hm hG
  change awp C _ _ ⟨[(0, .sl 8 (bks xs))], [], 0⟩
  refine awp_seq ?_
  refine r1 T0_ok hP hm hN ?_
  refine g1 ?_
  refine g1 ?_
  refine awp_seq ?_
  refine awp_seq ?_
  refine r1 T0_ok hP hm hN ?_
  refine g1 ?_
  refine gc1 ?_ (call1 ok_I_ValidBooks _ [] (hpre := by (try dsimp only); omega))
  refine g1 ?_
  refine awp_cond rfl (fun hc0 => ?_) (fun hc0 => ?_)
  · skip
    have hr : passO xs = (0, 1) := by rw [passO, if_pos hc0]
    refine awp_seq ?_
    refine r1 T0_ok hP hm hN ?_
    refine g1 ?_
    refine g1 ?_
    refine awp_ret ?_
    refine fin_mk [] rfl rfl ?_ trivial (by decide)
    show D.tup [.val (.int .i64 (passO xs).1), .val (.int .i64 (passO xs).2)] = _
    rw [hr]
    rfl
  · skip
    have hr : passO xs = (topF 0 (passL xs) xs.length, 0) := by rw [passO, if_neg (by rw [hc0]; simp)]
    have h60 := valid60 hc0
    have hIv := inv_rk xs
    have hpl := plcL_len xs
    have hrl : (rkL xs).length = xs.length := rkR_len xs xs.length
    refine awp_skip ?_
    refine awp_seq ?_
    have hps := passL_len xs
    have htop : topF ((passL xs ++ [0]).getD 0 0) (passL xs ++ [0]) (passL xs ++ [0]).length = topF 0 (passL xs) xs.length := by
      have h := top_app (passL xs) (fun k hk => psL_all hIv (by omega))
      rw [h, hps]
    refine awp_sreg rfl ?_
    refine sg1 T0_ok hP hm hN ?_
    refine sreg_step T0_ok hP hm hN rfl (by repeat (first | exact List.Mem.head _ | apply List.Mem.tail)) rfl (aop_call (by rfl) (call1 ok_I_passes _ [] (hpre := by exact h60)) (by simp +decide (disch := omega) only [nrm, lk_nrm, dc_nrm, mk_nrm, mf_nrm, ti_nrm, ls_nrm, mp_nrm, nb_nrm, hset, Nat.reduceAdd]; rfl)) ?_
    refine sg1 T0_ok hP hm hN ?_
    refine sreg_appcall (te := ⟨.int .i64, 1, 8, .int .i64 0⟩) (rows := [[.val (.int .i64 0)]]) T0_ok hP hN (by decide) (by decide) ok_slices_Max_int64_int64 (passL xs ++ [0]) rfl rfl rfl rfl rfl rfl (by decide) rfl rfl (by show ((i64s (passL xs)).length + 1) * 8 ≤ _; rw [List.length_map, hps]; omega) (by show (i64s (passL xs)).length + 1 ≤ _; rw [List.length_map, hps]; omega) (by show [D.sl 1 (i64s (passL xs ++ [0]))] = _; rw [i64s_app2]; rfl) (by show 1 ≤ (passL xs ++ [0]).length ∧ _; simp only [List.length_append, hps, List.length_cons, List.length_nil]; omega) rfl rfl rfl (by show D.val (.int .i64 (topF ((passL xs ++ [0]).getD 0 0) (passL xs ++ [0]) (passL xs ++ [0]).length)) = D.val (.int .i64 (topF 0 (passL xs) xs.length)); rw [htop]) ?_ (fun _ => rfl)
    refine sreg_rest T0_ok hP hm hN ?_
    refine g1 ?_
    refine g1 ?_
    refine awp_ret ?_
    refine fin_mk [] rfl rfl ?_ trivial (by decide)
    show D.tup [.val (.int .i64 (passO xs).1), .val (.int .i64 (passO xs).2)] = _
    rw [hr]
    rfl

end Go.Proofs.Ythdgihkffcmkiaa.Abs

