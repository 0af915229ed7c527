import Derived.Test.YthdgihkffcmkiaaS2
set_option linter.unusedVariables false
set_option linter.unusedSimpArgs false
namespace Go.Proofs.Ythdgihkffcmkiaa.Abs
open Go Go.RowKit
def keyB (b : Bk) : List Int := [b.cls, b.m0, b.m1, b.m2, b.vol]
theorem cmpU_key (a b : Bk) : cmpU a b = cmp3 (keyB a) (keyB b) := by
  have e1 : fldS 1 = 1 := by decide
  have e2 : fldS 2 = 2 := by decide
  have e3 : fldS 3 = 3 := by decide
  simp only [cmpU, usualO, cmpBy, e1, e2, e3, cmpF, keyB, marks]
  simp only [show ¬ ((1 : Int) < 0) by omega, show ¬ ((2 : Int) < 0) by omega, show ¬ ((3 : Int) < 0) by omega, if_false, beq_self_eq_true, if_true, show ((2 : Int) == 1) = false by decide, show ((3 : Int) == 1) = false by decide, show ((3 : Int) == 2) = false by decide, Bool.false_eq_true, cmp3]
  have h0 := cmpI_cases a.cls b.cls
  have h1 := cmpI_cases a.m0 b.m0
  have h2 := cmpI_cases a.m1 b.m1
  have h3 := cmpI_cases a.m2 b.m2
  have h4 := cmpI_cases a.vol b.vol
  rcases h0 with h0 | h0 | h0 <;> rcases h1 with h1 | h1 | h1 <;> rcases h2 with h2 | h2 | h2 <;> rcases h3 with h3 | h3 | h3 <;> rcases h4 with h4 | h4 | h4 <;> simp [h0, h1, h2, h3, h4]
theorem cmp3_anti : ∀ xs ys : List Int, xs.length = ys.length → cmp3 ys xs = -cmp3 xs ys
  | [], [], _ => rfl
  | x :: xs, y :: ys, h => by
    have ih := cmp3_anti xs ys (by simpa using h)
    unfold cmp3
    rcases Int.lt_trichotomy x y with h1 | h1 | h1
    · simp [cmpI, h1, show ¬ y < x by omega]
    · subst h1; simp [cmpI, ih]
    · simp [cmpI, h1, show ¬ x < y by omega]
  | [], _ :: _, h => by simp at h
  | _ :: _, [], h => by simp at h
theorem cmp3_trans : ∀ xs ys zs : List Int, xs.length = ys.length → ys.length = zs.length → cmp3 xs ys ≤ 0 → cmp3 ys zs ≤ 0 → cmp3 xs zs ≤ 0
  | [], [], [], _, _, _, _ => by decide
  | x :: xs, y :: ys, z :: zs, h1, h2, h3, h4 => by
    have ih := cmp3_trans xs ys zs (by simpa using h1) (by simpa using h2)
    unfold cmp3 at h3 h4 ⊢
    unfold cmpI at h3 h4 ⊢
    rcases Int.lt_trichotomy x y with a | a | a <;> rcases Int.lt_trichotomy y z with b | b | b
    · simp [show x < z by omega]
    · subst b; simp [a]
    · simp [b, show ¬ y < z by omega] at h4
    · subst a; simp [b]
    · subst a; subst b; simp at h3 h4 ⊢; exact ih h3 h4
    · simp [b, show ¬ y < z by omega] at h4
    all_goals simp [a, show ¬ x < y by omega] at h3
  | [], [], _ :: _, _, h, _, _ => by simp at h
  | [], _ :: _, _, h, _, _, _ => by simp at h
  | _ :: _, [], _, h, _, _, _ => by simp at h
  | _ :: _, _ :: _, [], _, h, _, _ => by simp at h
theorem cmpU_anti (a b : Bk) : cmpU b a = -cmpU a b := by rw [cmpU_key, cmpU_key]; exact cmp3_anti _ _ rfl
theorem cmpU_trans {a b c : Bk} (h1 : cmpU a b ≤ 0) (h2 : cmpU b c ≤ 0) : cmpU a c ≤ 0 := by
  rw [cmpU_key] at *
  exact cmp3_trans (keyB a) (keyB b) (keyB c) rfl rfl h1 h2

theorem natadd20 (a : Nat) : (a : Int) + 20 = ((a + 20 : Nat) : Int) := rfl
theorem i64s_app2 (xs ys : List Int) : i64s (xs ++ ys) = i64s xs ++ i64s ys := by simp
theorem rng_iota {n : Nat} {N : Int} (h : (n : Int) ≤ N) {ys : List Int} (hp : ys.Perm (iotaL n)) : Rng N ys := fun v hv => by
  have := iotaL_mem (hp.mem_iff.1 hv)
  omega

noncomputable abbrev s_slices_stableCmpFunc_int : Spec (Nat × D × (Int → Int → Int) × Int) where
  args := fun x => [.own 0, .val (.int .i64 ((x.1 : Nat) : Int)), x.2.1]
  pre := fun x => CmpOk x.2.2.1 x.2.2.2 x.2.1 ∧ x.1 ≤ 60 ∧ (x.1 : Int) ≤ x.2.2.2
  obs := fun x => [⟨3, 1, false, i64s (iotaL x.1)⟩]
  out := fun x => [⟨3, 1, false, i64s (srt x.2.2.1 0 x.1 (iotaL x.1))⟩]
  res := fun x => .tup []

set_option maxRecDepth 20000 in
set_option maxHeartbeats 8000000 in
theorem ok_slices_stableCmpFunc_int : FnOk Pr 70 s_slices_stableCmpFunc_int := by
  refine fn_ok 3 1 T0_ok Go.Proofs.Try.func70 rfl (enters_of Go.Proofs.Try.func70 rfl rfl) (fun _ => rfl) (fun _ => rfl) (fun _ => rfl) ?_
  rintro ⟨n, fn, c, N⟩ ⟨hC, hn60, hnN⟩ C hP hN hm hG
  change awp C _ _ ⟨[(0, .own 0), (1, .val (.int .i64 ((n : Nat) : Int))), (2, fn)], [(0, ⟨3, 1, false, i64s (iotaL n)⟩)], 1⟩
  simp only at hC hn60 hnN
  refine awp_seq ?_
  refine r1 T0_ok hP hm hN ?_
  refine g1 ?_ (hst := by simp +decide (disch := omega) only [nrm, lk_nrm, dc_nrm, mk_nrm, mf_nrm, ti_nrm, ls_nrm, mp_nrm, nb_nrm, hset, pick_and, pick_or, ↓reduceIte, Nat.reduceAdd, wI64, wI32, wI16, wI8, wU8, List.length_map, Int.toNat_natCast, i64s_set, tn1, natadd, natadd1, natsub, natsub1, natmul2, natmul2', wU64, hfd, natadd20]; rfl)
  refine awp_seq ?_
  refine r1 T0_ok hP hm hN ?_
  refine g1 ?_ (hst := by simp +decide (disch := omega) only [nrm, lk_nrm, dc_nrm, mk_nrm, mf_nrm, ti_nrm, ls_nrm, mp_nrm, nb_nrm, hset, pick_and, pick_or, ↓reduceIte, Nat.reduceAdd, wI64, wI32, wI16, wI8, wU8, List.length_map, Int.toNat_natCast, i64s_set, tn1, natadd, natadd1, natsub, natsub1, natmul2, natmul2', wU64, hfd, natadd20]; rfl)
  refine g1 ?_ (hst := by simp +decide (disch := omega) only [nrm, lk_nrm, dc_nrm, mk_nrm, mf_nrm, ti_nrm, ls_nrm, mp_nrm, nb_nrm, hset, pick_and, pick_or, ↓reduceIte, Nat.reduceAdd, wI64, wI32, wI16, wI8, wU8, List.length_map, Int.toNat_natCast, i64s_set, tn1, natadd, natadd1, natsub, natsub1, natmul2, natmul2', wU64, hfd, natadd20]; rfl)
  refine g1 ?_ (hst := by simp +decide (disch := omega) only [nrm, lk_nrm, dc_nrm, mk_nrm, mf_nrm, ti_nrm, ls_nrm, mp_nrm, nb_nrm, hset, pick_and, pick_or, ↓reduceIte, Nat.reduceAdd, wI64, wI32, wI16, wI8, wU8, List.length_map, Int.toNat_natCast, i64s_set, tn1, natadd, natadd1, natsub, natsub1, natmul2, natmul2', wU64, hfd, natadd20]; rfl)
  refine awp_seq ?_
  refine awp_block ?_
  refine awp_loop (fun r st => ∃ (p : Nat) (ys : List Int), (p = 0 ∨ p = 20 ∨ p = 40 ∨ p = 60) ∧ p ≤ n ∧ Blk c n p ys ∧ r = n - p ∧ st = ⟨[(6, .val (.int .i64 20)), (7, .val (.int .i64 ((p : Nat) : Int))), (8, .val (.int .i64 ((p + 20 : Nat) : Int))), (0, .own 0), (1, .val (.int .i64 ((n : Nat) : Int))), (2, fn)], [(0, ⟨3, 1, false, i64s ys⟩)], 1⟩) n ⟨_, weak_sl (sub_cons rfl (sub_cons rfl (sub_cons rfl (sub_cons rfl (sub_cons rfl (sub_cons rfl (sub_nil))))))), 0, iotaL n, .inl rfl, Nat.zero_le _, blk_0 c n, rfl, rfl⟩ ?_
  rintro r st ⟨p, ys, hp, hpn, hB, hr, rfl⟩
  have hyl := hB.len
  have hry := rng_iota hnN hB.perm
  refine awp_seq ?_
  refine awp_seq ?_
  refine r1 T0_ok hP hm hN ?_
  refine g1 ?_ (hst := by simp +decide (disch := omega) only [nrm, lk_nrm, dc_nrm, mk_nrm, mf_nrm, ti_nrm, ls_nrm, mp_nrm, nb_nrm, hset, pick_and, pick_or, ↓reduceIte, Nat.reduceAdd, wI64, wI32, wI16, wI8, wU8, List.length_map, Int.toNat_natCast, i64s_set, tn1, natadd, natadd1, natsub, natsub1, natmul2, natmul2', wU64, hfd, natadd20]; rfl)
  refine g1 ?_ (hst := by simp +decide (disch := omega) only [nrm, lk_nrm, dc_nrm, mk_nrm, mf_nrm, ti_nrm, ls_nrm, mp_nrm, nb_nrm, hset, pick_and, pick_or, ↓reduceIte, Nat.reduceAdd, wI64, wI32, wI16, wI8, wU8, List.length_map, Int.toNat_natCast, i64s_set, tn1, natadd, natadd1, natsub, natsub1, natmul2, natmul2', wU64, hfd, natadd20]; rfl)
  refine g1 ?_ (hst := by simp +decide (disch := omega) only [nrm, lk_nrm, dc_nrm, mk_nrm, mf_nrm, ti_nrm, ls_nrm, mp_nrm, nb_nrm, hset, pick_and, pick_or, ↓reduceIte, Nat.reduceAdd, wI64, wI32, wI16, wI8, wU8, List.length_map, Int.toNat_natCast, i64s_set, tn1, natadd, natadd1, natsub, natsub1, natmul2, natmul2', wU64, hfd, natadd20]; rfl)
  refine awp_cond rfl (fun hc0 => ?_) (fun hc0 => ?_)
  · skip
    have hle : p + 20 ≤ n := by have h := hc0; simp only [decide_eq_true_eq] at h; omega
    refine awp_skip ?_
    refine awp_block ?_
    refine awp_seq ?_
    refine r1 T0_ok hP hm hN ?_
    refine g1 ?_ (hst := by simp +decide (disch := omega) only [nrm, lk_nrm, dc_nrm, mk_nrm, mf_nrm, ti_nrm, ls_nrm, mp_nrm, nb_nrm, hset, pick_and, pick_or, ↓reduceIte, Nat.reduceAdd, wI64, wI32, wI16, wI8, wU8, List.length_map, Int.toNat_natCast, i64s_set, tn1, natadd, natadd1, natsub, natsub1, natmul2, natmul2', wU64, hfd, natadd20]; rfl)
    refine g1 ?_ (hst := by simp +decide (disch := omega) only [nrm, lk_nrm, dc_nrm, mk_nrm, mf_nrm, ti_nrm, ls_nrm, mp_nrm, nb_nrm, hset, pick_and, pick_or, ↓reduceIte, Nat.reduceAdd, wI64, wI32, wI16, wI8, wU8, List.length_map, Int.toNat_natCast, i64s_set, tn1, natadd, natadd1, natsub, natsub1, natmul2, natmul2', wU64, hfd, natadd20]; rfl)
    refine g1 ?_ (hst := by simp +decide (disch := omega) only [nrm, lk_nrm, dc_nrm, mk_nrm, mf_nrm, ti_nrm, ls_nrm, mp_nrm, nb_nrm, hset, pick_and, pick_or, ↓reduceIte, Nat.reduceAdd, wI64, wI32, wI16, wI8, wU8, List.length_map, Int.toNat_natCast, i64s_set, tn1, natadd, natadd1, natsub, natsub1, natmul2, natmul2', wU64, hfd, natadd20]; rfl)
    refine g1 ?_ (hst := by simp +decide (disch := omega) only [nrm, lk_nrm, dc_nrm, mk_nrm, mf_nrm, ti_nrm, ls_nrm, mp_nrm, nb_nrm, hset, pick_and, pick_or, ↓reduceIte, Nat.reduceAdd, wI64, wI32, wI16, wI8, wU8, List.length_map, Int.toNat_natCast, i64s_set, tn1, natadd, natadd1, natsub, natsub1, natmul2, natmul2', wU64, hfd, natadd20]; rfl)
    refine gc1 ?_ (call1 ok_slices_insertionSortCmpFunc_int (ys, p, p + 20, fn, c, N) [0] (hargs := (by (try dsimp only); exact args_cons (arga_own rfl) (args_cons arga_val (args_cons arga_val (args_cons (arga_does hC.does) args_nil))))) (hpre := by (try dsimp only); exact ⟨⟨by omega, by omega, fun u v a1 a2 a3 => hB.lt u v a2 (by omega) (.inl (by omega))⟩, hC, hry, by omega⟩)) (hst := by simp +decide (disch := omega) only [nrm, lk_nrm, dc_nrm, mk_nrm, mf_nrm, ti_nrm, ls_nrm, mp_nrm, nb_nrm, hset, pick_and, pick_or, ↓reduceIte, Nat.reduceAdd, wI64, wI32, wI16, wI8, wU8, List.length_map, Int.toNat_natCast, i64s_set, tn1, natadd, natadd1, natsub, natsub1, natmul2, natmul2', wU64, hfd, natadd20]; rfl)
    refine awp_seq ?_
    refine r1 T0_ok hP hm hN ?_
    refine g1 ?_ (hst := by simp +decide (disch := omega) only [nrm, lk_nrm, dc_nrm, mk_nrm, mf_nrm, ti_nrm, ls_nrm, mp_nrm, nb_nrm, hset, pick_and, pick_or, ↓reduceIte, Nat.reduceAdd, wI64, wI32, wI16, wI8, wU8, List.length_map, Int.toNat_natCast, i64s_set, tn1, natadd, natadd1, natsub, natsub1, natmul2, natmul2', wU64, hfd, natadd20]; rfl)
    refine g1 ?_ (hst := by simp +decide (disch := omega) only [nrm, lk_nrm, dc_nrm, mk_nrm, mf_nrm, ti_nrm, ls_nrm, mp_nrm, nb_nrm, hset, pick_and, pick_or, ↓reduceIte, Nat.reduceAdd, wI64, wI32, wI16, wI8, wU8, List.length_map, Int.toNat_natCast, i64s_set, tn1, natadd, natadd1, natsub, natsub1, natmul2, natmul2', wU64, hfd, natadd20]; rfl)
    refine r1 T0_ok hP hm hN ?_
    refine g1 ?_ (hst := by simp +decide (disch := omega) only [nrm, lk_nrm, dc_nrm, mk_nrm, mf_nrm, ti_nrm, ls_nrm, mp_nrm, nb_nrm, hset, pick_and, pick_or, ↓reduceIte, Nat.reduceAdd, wI64, wI32, wI16, wI8, wU8, List.length_map, Int.toNat_natCast, i64s_set, tn1, natadd, natadd1, natsub, natsub1, natmul2, natmul2', wU64, hfd, natadd20]; rfl)
    refine g1 ?_ (hst := by simp +decide (disch := omega) only [nrm, lk_nrm, dc_nrm, mk_nrm, mf_nrm, ti_nrm, ls_nrm, mp_nrm, nb_nrm, hset, pick_and, pick_or, ↓reduceIte, Nat.reduceAdd, wI64, wI32, wI16, wI8, wU8, List.length_map, Int.toNat_natCast, i64s_set, tn1, natadd, natadd1, natsub, natsub1, natmul2, natmul2', wU64, hfd, natadd20]; rfl)
    refine g1 ?_ (hst := by simp +decide (disch := omega) only [nrm, lk_nrm, dc_nrm, mk_nrm, mf_nrm, ti_nrm, ls_nrm, mp_nrm, nb_nrm, hset, pick_and, pick_or, ↓reduceIte, Nat.reduceAdd, wI64, wI32, wI16, wI8, wU8, List.length_map, Int.toNat_natCast, i64s_set, tn1, natadd, natadd1, natsub, natsub1, natmul2, natmul2', wU64, hfd, natadd20]; rfl)
    refine g1 ?_ (hst := by simp +decide (disch := omega) only [nrm, lk_nrm, dc_nrm, mk_nrm, mf_nrm, ti_nrm, ls_nrm, mp_nrm, nb_nrm, hset, pick_and, pick_or, ↓reduceIte, Nat.reduceAdd, wI64, wI32, wI16, wI8, wU8, List.length_map, Int.toNat_natCast, i64s_set, tn1, natadd, natadd1, natsub, natsub1, natmul2, natmul2', wU64, hfd, natadd20]; rfl)
    exact ⟨_, _, by omega, weak_sl (sub_cons rfl (sub_cons rfl (sub_cons rfl (sub_cons rfl (sub_cons rfl (sub_cons rfl (sub_nil))))))), p + 20, srt c p (p + 20) ys, by omega, by omega, blk_step hC.ord hB hp (by omega) (by omega) (by omega) hn60 (.inl rfl), rfl, rfl⟩
  · skip
    have hle : ¬ p + 20 ≤ n := by have h := hc0; simp only [decide_eq_false_iff_not] at h; omega
    refine awp_exit ?_
    repeat refine thenA_exit ?_
    refine blockA_hit ?_
    refine awp_seq ?_
    refine r1 T0_ok hP hm hN ?_
    refine g1 ?_ (hst := by simp +decide (disch := omega) only [nrm, lk_nrm, dc_nrm, mk_nrm, mf_nrm, ti_nrm, ls_nrm, mp_nrm, nb_nrm, hset, pick_and, pick_or, ↓reduceIte, Nat.reduceAdd, wI64, wI32, wI16, wI8, wU8, List.length_map, Int.toNat_natCast, i64s_set, tn1, natadd, natadd1, natsub, natsub1, natmul2, natmul2', wU64, hfd, natadd20]; rfl)
    refine g1 ?_ (hst := by simp +decide (disch := omega) only [nrm, lk_nrm, dc_nrm, mk_nrm, mf_nrm, ti_nrm, ls_nrm, mp_nrm, nb_nrm, hset, pick_and, pick_or, ↓reduceIte, Nat.reduceAdd, wI64, wI32, wI16, wI8, wU8, List.length_map, Int.toNat_natCast, i64s_set, tn1, natadd, natadd1, natsub, natsub1, natmul2, natmul2', wU64, hfd, natadd20]; rfl)
    refine g1 ?_ (hst := by simp +decide (disch := omega) only [nrm, lk_nrm, dc_nrm, mk_nrm, mf_nrm, ti_nrm, ls_nrm, mp_nrm, nb_nrm, hset, pick_and, pick_or, ↓reduceIte, Nat.reduceAdd, wI64, wI32, wI16, wI8, wU8, List.length_map, Int.toNat_natCast, i64s_set, tn1, natadd, natadd1, natsub, natsub1, natmul2, natmul2', wU64, hfd, natadd20]; rfl)
    refine g1 ?_ (hst := by simp +decide (disch := omega) only [nrm, lk_nrm, dc_nrm, mk_nrm, mf_nrm, ti_nrm, ls_nrm, mp_nrm, nb_nrm, hset, pick_and, pick_or, ↓reduceIte, Nat.reduceAdd, wI64, wI32, wI16, wI8, wU8, List.length_map, Int.toNat_natCast, i64s_set, tn1, natadd, natadd1, natsub, natsub1, natmul2, natmul2', wU64, hfd, natadd20]; rfl)
    refine gc1 ?_ (call1 ok_slices_insertionSortCmpFunc_int (ys, p, n, fn, c, N) [0] (hargs := (by (try dsimp only); exact args_cons (arga_own rfl) (args_cons arga_val (args_cons arga_val (args_cons (arga_does hC.does) args_nil))))) (hpre := by (try dsimp only); exact ⟨⟨by omega, by omega, fun u v a1 a2 a3 => hB.lt u v a2 (by omega) (.inl (by omega))⟩, hC, hry, by omega⟩)) (hst := by simp +decide (disch := omega) only [nrm, lk_nrm, dc_nrm, mk_nrm, mf_nrm, ti_nrm, ls_nrm, mp_nrm, nb_nrm, hset, pick_and, pick_or, ↓reduceIte, Nat.reduceAdd, wI64, wI32, wI16, wI8, wU8, List.length_map, Int.toNat_natCast, i64s_set, tn1, natadd, natadd1, natsub, natsub1, natmul2, natmul2', wU64, hfd, natadd20]; rfl)
    refine awp_block ?_
    refine awp_loop (fun r st => ∃ (w : Nat) (ys : List Int), (w = 20 ∨ w = 40 ∨ w = 80) ∧ Lv c n w ys ∧ r = 100 - w ∧ st = ⟨[(6, .val (.int .i64 ((w : Nat) : Int))), (0, .own 0), (1, .val (.int .i64 ((n : Nat) : Int))), (2, fn)], [(0, ⟨3, 1, false, i64s ys⟩)], 1⟩) 80 ⟨_, weak_sl (sub_cons rfl (sub_cons rfl (sub_cons rfl (sub_cons rfl (sub_nil))))), 20, srt c p n ys, .inl rfl, blk_lv (blk_step hC.ord hB hp hpn (by omega) (Nat.le_refl _) hn60 (.inr rfl)), rfl, rfl⟩ ?_
    rintro r st ⟨w, ys, hw, hL, hr, rfl⟩
    refine awp_seq ?_
    refine awp_seq ?_
    refine r1 T0_ok hP hm hN ?_
    refine g1 ?_ (hst := by simp +decide (disch := omega) only [nrm, lk_nrm, dc_nrm, mk_nrm, mf_nrm, ti_nrm, ls_nrm, mp_nrm, nb_nrm, hset, pick_and, pick_or, ↓reduceIte, Nat.reduceAdd, wI64, wI32, wI16, wI8, wU8, List.length_map, Int.toNat_natCast, i64s_set, tn1, natadd, natadd1, natsub, natsub1, natmul2, natmul2', wU64, hfd, natadd20]; rfl)
    refine g1 ?_ (hst := by simp +decide (disch := omega) only [nrm, lk_nrm, dc_nrm, mk_nrm, mf_nrm, ti_nrm, ls_nrm, mp_nrm, nb_nrm, hset, pick_and, pick_or, ↓reduceIte, Nat.reduceAdd, wI64, wI32, wI16, wI8, wU8, List.length_map, Int.toNat_natCast, i64s_set, tn1, natadd, natadd1, natsub, natsub1, natmul2, natmul2', wU64, hfd, natadd20]; rfl)
    refine g1 ?_ (hst := by simp +decide (disch := omega) only [nrm, lk_nrm, dc_nrm, mk_nrm, mf_nrm, ti_nrm, ls_nrm, mp_nrm, nb_nrm, hset, pick_and, pick_or, ↓reduceIte, Nat.reduceAdd, wI64, wI32, wI16, wI8, wU8, List.length_map, Int.toNat_natCast, i64s_set, tn1, natadd, natadd1, natsub, natsub1, natmul2, natmul2', wU64, hfd, natadd20]; rfl)
    refine awp_cond rfl (fun h30 => ?_) (fun h30 => ?_)
    · skip
      have hwn : w < n := by simpa using h30
      refine awp_skip ?_
      refine awp_block ?_
      refine awp_seq ?_
      refine r1 T0_ok hP hm hN ?_
      refine g1 ?_ (hst := by simp +decide (disch := omega) only [nrm, lk_nrm, dc_nrm, mk_nrm, mf_nrm, ti_nrm, ls_nrm, mp_nrm, nb_nrm, hset, pick_and, pick_or, ↓reduceIte, Nat.reduceAdd, wI64, wI32, wI16, wI8, wU8, List.length_map, Int.toNat_natCast, i64s_set, tn1, natadd, natadd1, natsub, natsub1, natmul2, natmul2', wU64, hfd, natadd20]; rfl)
      refine g1 ?_ (hst := by simp +decide (disch := omega) only [nrm, lk_nrm, dc_nrm, mk_nrm, mf_nrm, ti_nrm, ls_nrm, mp_nrm, nb_nrm, hset, pick_and, pick_or, ↓reduceIte, Nat.reduceAdd, wI64, wI32, wI16, wI8, wU8, List.length_map, Int.toNat_natCast, i64s_set, tn1, natadd, natadd1, natsub, natsub1, natmul2, natmul2', wU64, hfd, natadd20]; rfl)
      refine g1 ?_ (hst := by simp +decide (disch := omega) only [nrm, lk_nrm, dc_nrm, mk_nrm, mf_nrm, ti_nrm, ls_nrm, mp_nrm, nb_nrm, hset, pick_and, pick_or, ↓reduceIte, Nat.reduceAdd, wI64, wI32, wI16, wI8, wU8, List.length_map, Int.toNat_natCast, i64s_set, tn1, natadd, natadd1, natsub, natsub1, natmul2, natmul2', wU64, hfd, natadd20]; rfl)
      refine g1 ?_ (hst := by simp +decide (disch := omega) only [nrm, lk_nrm, dc_nrm, mk_nrm, mf_nrm, ti_nrm, ls_nrm, mp_nrm, nb_nrm, hset, pick_and, pick_or, ↓reduceIte, Nat.reduceAdd, wI64, wI32, wI16, wI8, wU8, List.length_map, Int.toNat_natCast, i64s_set, tn1, natadd, natadd1, natsub, natsub1, natmul2, natmul2', wU64, hfd, natadd20]; rfl)
      refine awp_seq ?_
      refine awp_block ?_
      refine awp_loop (fun r st => ∃ (p : Nat) (ys2 : List Int), (p = 0 ∨ p = 2 * w) ∧ p ≤ n ∧ Half c n w p ys2 ∧ r = n - p ∧ st = ⟨[(7, .val (.int .i64 ((p : Nat) : Int))), (8, .val (.int .i64 ((p + 2 * w : Nat) : Int))), (6, .val (.int .i64 ((w : Nat) : Int))), (0, .own 0), (1, .val (.int .i64 ((n : Nat) : Int))), (2, fn)], [(0, ⟨3, 1, false, i64s ys2⟩)], 1⟩) n ⟨_, (by rw [Nat.zero_add]; exact weak_sl (sub_cons rfl (sub_cons rfl (sub_cons rfl (sub_cons rfl (sub_cons rfl (sub_cons rfl (sub_nil)))))))), 0, ys, .inl rfl, Nat.zero_le _, half_0 hL, rfl, rfl⟩ ?_
      rintro r st ⟨p, ys2, hp2, hpn2, hH, hr2, rfl⟩
      have hyl2 := hH.len
      have hry2 := rng_iota hnN hH.perm
      refine awp_seq ?_
      refine awp_seq ?_
      refine r1 T0_ok hP hm hN ?_
      refine g1 ?_ (hst := by simp +decide (disch := omega) only [nrm, lk_nrm, dc_nrm, mk_nrm, mf_nrm, ti_nrm, ls_nrm, mp_nrm, nb_nrm, hset, pick_and, pick_or, ↓reduceIte, Nat.reduceAdd, wI64, wI32, wI16, wI8, wU8, List.length_map, Int.toNat_natCast, i64s_set, tn1, natadd, natadd1, natsub, natsub1, natmul2, natmul2', wU64, hfd, natadd20]; rfl)
      refine g1 ?_ (hst := by simp +decide (disch := omega) only [nrm, lk_nrm, dc_nrm, mk_nrm, mf_nrm, ti_nrm, ls_nrm, mp_nrm, nb_nrm, hset, pick_and, pick_or, ↓reduceIte, Nat.reduceAdd, wI64, wI32, wI16, wI8, wU8, List.length_map, Int.toNat_natCast, i64s_set, tn1, natadd, natadd1, natsub, natsub1, natmul2, natmul2', wU64, hfd, natadd20]; rfl)
      refine g1 ?_ (hst := by simp +decide (disch := omega) only [nrm, lk_nrm, dc_nrm, mk_nrm, mf_nrm, ti_nrm, ls_nrm, mp_nrm, nb_nrm, hset, pick_and, pick_or, ↓reduceIte, Nat.reduceAdd, wI64, wI32, wI16, wI8, wU8, List.length_map, Int.toNat_natCast, i64s_set, tn1, natadd, natadd1, natsub, natsub1, natmul2, natmul2', wU64, hfd, natadd20]; rfl)
      refine awp_cond rfl (fun h35 => ?_) (fun h35 => ?_)
      · skip
        have hle2 : p + 2 * w ≤ n := by have h := h35; simp only [decide_eq_true_eq] at h; omega
        obtain rfl : p = 0 := by omega
        refine awp_skip ?_
        refine awp_block ?_
        refine awp_seq ?_
        refine r1 T0_ok hP hm hN ?_
        refine g1 ?_ (hst := by simp +decide (disch := omega) only [nrm, lk_nrm, dc_nrm, mk_nrm, mf_nrm, ti_nrm, ls_nrm, mp_nrm, nb_nrm, hset, pick_and, pick_or, ↓reduceIte, Nat.reduceAdd, wI64, wI32, wI16, wI8, wU8, List.length_map, Int.toNat_natCast, i64s_set, tn1, natadd, natadd1, natsub, natsub1, natmul2, natmul2', wU64, hfd, natadd20]; rfl)
        refine g1 ?_ (hst := by simp +decide (disch := omega) only [nrm, lk_nrm, dc_nrm, mk_nrm, mf_nrm, ti_nrm, ls_nrm, mp_nrm, nb_nrm, hset, pick_and, pick_or, ↓reduceIte, Nat.reduceAdd, wI64, wI32, wI16, wI8, wU8, List.length_map, Int.toNat_natCast, i64s_set, tn1, natadd, natadd1, natsub, natsub1, natmul2, natmul2', wU64, hfd, natadd20]; rfl)
        refine g1 ?_ (hst := by simp +decide (disch := omega) only [nrm, lk_nrm, dc_nrm, mk_nrm, mf_nrm, ti_nrm, ls_nrm, mp_nrm, nb_nrm, hset, pick_and, pick_or, ↓reduceIte, Nat.reduceAdd, wI64, wI32, wI16, wI8, wU8, List.length_map, Int.toNat_natCast, i64s_set, tn1, natadd, natadd1, natsub, natsub1, natmul2, natmul2', wU64, hfd, natadd20]; rfl)
        refine g1 ?_ (hst := by simp +decide (disch := omega) only [nrm, lk_nrm, dc_nrm, mk_nrm, mf_nrm, ti_nrm, ls_nrm, mp_nrm, nb_nrm, hset, pick_and, pick_or, ↓reduceIte, Nat.reduceAdd, wI64, wI32, wI16, wI8, wU8, List.length_map, Int.toNat_natCast, i64s_set, tn1, natadd, natadd1, natsub, natsub1, natmul2, natmul2', wU64, hfd, natadd20]; rfl)
        refine g1 ?_ (hst := by simp +decide (disch := omega) only [nrm, lk_nrm, dc_nrm, mk_nrm, mf_nrm, ti_nrm, ls_nrm, mp_nrm, nb_nrm, hset, pick_and, pick_or, ↓reduceIte, Nat.reduceAdd, wI64, wI32, wI16, wI8, wU8, List.length_map, Int.toNat_natCast, i64s_set, tn1, natadd, natadd1, natsub, natsub1, natmul2, natmul2', wU64, hfd, natadd20]; rfl)
        refine g1 ?_ (hst := by simp +decide (disch := omega) only [nrm, lk_nrm, dc_nrm, mk_nrm, mf_nrm, ti_nrm, ls_nrm, mp_nrm, nb_nrm, hset, pick_and, pick_or, ↓reduceIte, Nat.reduceAdd, wI64, wI32, wI16, wI8, wU8, List.length_map, Int.toNat_natCast, i64s_set, tn1, natadd, natadd1, natsub, natsub1, natmul2, natmul2', wU64, hfd, natadd20]; rfl)
        refine g1 ?_ (hst := by simp +decide (disch := omega) only [nrm, lk_nrm, dc_nrm, mk_nrm, mf_nrm, ti_nrm, ls_nrm, mp_nrm, nb_nrm, hset, pick_and, pick_or, ↓reduceIte, Nat.reduceAdd, wI64, wI32, wI16, wI8, wU8, List.length_map, Int.toNat_natCast, i64s_set, tn1, natadd, natadd1, natsub, natsub1, natmul2, natmul2', wU64, hfd, natadd20]; rfl)
        refine gc1 ?_ (call1 (merge_ok 1048576) (ys2, 0, 0 + w, 0 + 2 * w, fn, c, N) [0] (hargs := (by (try dsimp only); exact args_cons (arga_own rfl) (args_cons arga_val (args_cons arga_val (args_cons arga_val (args_cons (arga_does hC.does) args_nil)))))) (hpre := by (try dsimp only); exact ⟨⟨half_merge hH (.inl rfl) (by omega) (by omega) (by omega) (by omega) hn60, hC⟩, ⟨hry2, by omega⟩, by omega⟩)) (hst := by simp +decide (disch := omega) only [nrm, lk_nrm, dc_nrm, mk_nrm, mf_nrm, ti_nrm, ls_nrm, mp_nrm, nb_nrm, hset, pick_and, pick_or, ↓reduceIte, Nat.reduceAdd, wI64, wI32, wI16, wI8, wU8, List.length_map, Int.toNat_natCast, i64s_set, tn1, natadd, natadd1, natsub, natsub1, natmul2, natmul2', wU64, hfd, natadd20]; rfl)
        refine awp_seq ?_
        refine r1 T0_ok hP hm hN ?_
        refine g1 ?_ (hst := by simp +decide (disch := omega) only [nrm, lk_nrm, dc_nrm, mk_nrm, mf_nrm, ti_nrm, ls_nrm, mp_nrm, nb_nrm, hset, pick_and, pick_or, ↓reduceIte, Nat.reduceAdd, wI64, wI32, wI16, wI8, wU8, List.length_map, Int.toNat_natCast, i64s_set, tn1, natadd, natadd1, natsub, natsub1, natmul2, natmul2', wU64, hfd, natadd20]; rfl)
        refine g1 ?_ (hst := by simp +decide (disch := omega) only [nrm, lk_nrm, dc_nrm, mk_nrm, mf_nrm, ti_nrm, ls_nrm, mp_nrm, nb_nrm, hset, pick_and, pick_or, ↓reduceIte, Nat.reduceAdd, wI64, wI32, wI16, wI8, wU8, List.length_map, Int.toNat_natCast, i64s_set, tn1, natadd, natadd1, natsub, natsub1, natmul2, natmul2', wU64, hfd, natadd20]; rfl)
        refine r1 T0_ok hP hm hN ?_
        refine g1 ?_ (hst := by simp +decide (disch := omega) only [nrm, lk_nrm, dc_nrm, mk_nrm, mf_nrm, ti_nrm, ls_nrm, mp_nrm, nb_nrm, hset, pick_and, pick_or, ↓reduceIte, Nat.reduceAdd, wI64, wI32, wI16, wI8, wU8, List.length_map, Int.toNat_natCast, i64s_set, tn1, natadd, natadd1, natsub, natsub1, natmul2, natmul2', wU64, hfd, natadd20]; rfl)
        refine g1 ?_ (hst := by simp +decide (disch := omega) only [nrm, lk_nrm, dc_nrm, mk_nrm, mf_nrm, ti_nrm, ls_nrm, mp_nrm, nb_nrm, hset, pick_and, pick_or, ↓reduceIte, Nat.reduceAdd, wI64, wI32, wI16, wI8, wU8, List.length_map, Int.toNat_natCast, i64s_set, tn1, natadd, natadd1, natsub, natsub1, natmul2, natmul2', wU64, hfd, natadd20]; rfl)
        refine g1 ?_ (hst := by simp +decide (disch := omega) only [nrm, lk_nrm, dc_nrm, mk_nrm, mf_nrm, ti_nrm, ls_nrm, mp_nrm, nb_nrm, hset, pick_and, pick_or, ↓reduceIte, Nat.reduceAdd, wI64, wI32, wI16, wI8, wU8, List.length_map, Int.toNat_natCast, i64s_set, tn1, natadd, natadd1, natsub, natsub1, natmul2, natmul2', wU64, hfd, natadd20]; rfl)
        refine g1 ?_ (hst := by simp +decide (disch := omega) only [nrm, lk_nrm, dc_nrm, mk_nrm, mf_nrm, ti_nrm, ls_nrm, mp_nrm, nb_nrm, hset, pick_and, pick_or, ↓reduceIte, Nat.reduceAdd, wI64, wI32, wI16, wI8, wU8, List.length_map, Int.toNat_natCast, i64s_set, tn1, natadd, natadd1, natsub, natsub1, natmul2, natmul2', wU64, hfd, natadd20]; rfl)
        refine g1 ?_ (hst := by simp +decide (disch := omega) only [nrm, lk_nrm, dc_nrm, mk_nrm, mf_nrm, ti_nrm, ls_nrm, mp_nrm, nb_nrm, hset, pick_and, pick_or, ↓reduceIte, Nat.reduceAdd, wI64, wI32, wI16, wI8, wU8, List.length_map, Int.toNat_natCast, i64s_set, tn1, natadd, natadd1, natsub, natsub1, natmul2, natmul2', wU64, hfd, natadd20]; rfl)
        exact ⟨_, _, by omega, weak_sl (sub_cons rfl (sub_cons rfl (sub_cons rfl (sub_cons rfl (sub_cons rfl (sub_cons rfl (sub_nil))))))), 0 + 2 * w, srt c 0 (0 + 2 * w) ys2, by omega, by omega, (by rw [Nat.zero_add]; exact half_step hC.ord hH (by omega) (by omega) hn60), rfl, rfl⟩
      · skip
        have hle2 : ¬ p + 2 * w ≤ n := by have h := h35; simp only [decide_eq_false_iff_not] at h; omega
        have hLv0 := half_end hC.ord hH hp2 (by omega) (by omega) hpn2 hn60
        refine awp_exit ?_
        repeat refine thenA_exit ?_
        refine blockA_hit ?_
        refine awp_seq ?_
        refine awp_seq ?_
        refine r1 T0_ok hP hm hN ?_
        refine g1 ?_ (hst := by simp +decide (disch := omega) only [nrm, lk_nrm, dc_nrm, mk_nrm, mf_nrm, ti_nrm, ls_nrm, mp_nrm, nb_nrm, hset, pick_and, pick_or, ↓reduceIte, Nat.reduceAdd, wI64, wI32, wI16, wI8, wU8, List.length_map, Int.toNat_natCast, i64s_set, tn1, natadd, natadd1, natsub, natsub1, natmul2, natmul2', wU64, hfd, natadd20]; rfl)
        refine g1 ?_ (hst := by simp +decide (disch := omega) only [nrm, lk_nrm, dc_nrm, mk_nrm, mf_nrm, ti_nrm, ls_nrm, mp_nrm, nb_nrm, hset, pick_and, pick_or, ↓reduceIte, Nat.reduceAdd, wI64, wI32, wI16, wI8, wU8, List.length_map, Int.toNat_natCast, i64s_set, tn1, natadd, natadd1, natsub, natsub1, natmul2, natmul2', wU64, hfd, natadd20]; rfl)
        refine g1 ?_ (hst := by simp +decide (disch := omega) only [nrm, lk_nrm, dc_nrm, mk_nrm, mf_nrm, ti_nrm, ls_nrm, mp_nrm, nb_nrm, hset, pick_and, pick_or, ↓reduceIte, Nat.reduceAdd, wI64, wI32, wI16, wI8, wU8, List.length_map, Int.toNat_natCast, i64s_set, tn1, natadd, natadd1, natsub, natsub1, natmul2, natmul2', wU64, hfd, natadd20]; rfl)
        refine g1 ?_ (hst := by simp +decide (disch := omega) only [nrm, lk_nrm, dc_nrm, mk_nrm, mf_nrm, ti_nrm, ls_nrm, mp_nrm, nb_nrm, hset, pick_and, pick_or, ↓reduceIte, Nat.reduceAdd, wI64, wI32, wI16, wI8, wU8, List.length_map, Int.toNat_natCast, i64s_set, tn1, natadd, natadd1, natsub, natsub1, natmul2, natmul2', wU64, hfd, natadd20]; rfl)
        refine awp_seq ?_
        refine r1 T0_ok hP hm hN ?_
        refine g1 ?_ (hst := by simp +decide (disch := omega) only [nrm, lk_nrm, dc_nrm, mk_nrm, mf_nrm, ti_nrm, ls_nrm, mp_nrm, nb_nrm, hset, pick_and, pick_or, ↓reduceIte, Nat.reduceAdd, wI64, wI32, wI16, wI8, wU8, List.length_map, Int.toNat_natCast, i64s_set, tn1, natadd, natadd1, natsub, natsub1, natmul2, natmul2', wU64, hfd, natadd20]; rfl)
        refine g1 ?_ (hst := by simp +decide (disch := omega) only [nrm, lk_nrm, dc_nrm, mk_nrm, mf_nrm, ti_nrm, ls_nrm, mp_nrm, nb_nrm, hset, pick_and, pick_or, ↓reduceIte, Nat.reduceAdd, wI64, wI32, wI16, wI8, wU8, List.length_map, Int.toNat_natCast, i64s_set, tn1, natadd, natadd1, natsub, natsub1, natmul2, natmul2', wU64, hfd, natadd20]; rfl)
        refine g1 ?_ (hst := by simp +decide (disch := omega) only [nrm, lk_nrm, dc_nrm, mk_nrm, mf_nrm, ti_nrm, ls_nrm, mp_nrm, nb_nrm, hset, pick_and, pick_or, ↓reduceIte, Nat.reduceAdd, wI64, wI32, wI16, wI8, wU8, List.length_map, Int.toNat_natCast, i64s_set, tn1, natadd, natadd1, natsub, natsub1, natmul2, natmul2', wU64, hfd, natadd20]; rfl)
        refine awp_cond rfl (fun h54 => ?_) (fun h54 => ?_)
        · skip
          have hm1 : p + w < n := by have h := h54; simp only [decide_eq_true_eq] at h; omega
          have hLv : Lv c n (2 * w) (srt c p n ys2) := by rw [if_pos hm1] at hLv0; exact hLv0
          refine r1 T0_ok hP hm hN ?_
          refine g1 ?_ (hst := by simp +decide (disch := omega) only [nrm, lk_nrm, dc_nrm, mk_nrm, mf_nrm, ti_nrm, ls_nrm, mp_nrm, nb_nrm, hset, pick_and, pick_or, ↓reduceIte, Nat.reduceAdd, wI64, wI32, wI16, wI8, wU8, List.length_map, Int.toNat_natCast, i64s_set, tn1, natadd, natadd1, natsub, natsub1, natmul2, natmul2', wU64, hfd, natadd20]; rfl)
          refine g1 ?_ (hst := by simp +decide (disch := omega) only [nrm, lk_nrm, dc_nrm, mk_nrm, mf_nrm, ti_nrm, ls_nrm, mp_nrm, nb_nrm, hset, pick_and, pick_or, ↓reduceIte, Nat.reduceAdd, wI64, wI32, wI16, wI8, wU8, List.length_map, Int.toNat_natCast, i64s_set, tn1, natadd, natadd1, natsub, natsub1, natmul2, natmul2', wU64, hfd, natadd20]; rfl)
          refine g1 ?_ (hst := by simp +decide (disch := omega) only [nrm, lk_nrm, dc_nrm, mk_nrm, mf_nrm, ti_nrm, ls_nrm, mp_nrm, nb_nrm, hset, pick_and, pick_or, ↓reduceIte, Nat.reduceAdd, wI64, wI32, wI16, wI8, wU8, List.length_map, Int.toNat_natCast, i64s_set, tn1, natadd, natadd1, natsub, natsub1, natmul2, natmul2', wU64, hfd, natadd20]; rfl)
          refine g1 ?_ (hst := by simp +decide (disch := omega) only [nrm, lk_nrm, dc_nrm, mk_nrm, mf_nrm, ti_nrm, ls_nrm, mp_nrm, nb_nrm, hset, pick_and, pick_or, ↓reduceIte, Nat.reduceAdd, wI64, wI32, wI16, wI8, wU8, List.length_map, Int.toNat_natCast, i64s_set, tn1, natadd, natadd1, natsub, natsub1, natmul2, natmul2', wU64, hfd, natadd20]; rfl)
          refine g1 ?_ (hst := by simp +decide (disch := omega) only [nrm, lk_nrm, dc_nrm, mk_nrm, mf_nrm, ti_nrm, ls_nrm, mp_nrm, nb_nrm, hset, pick_and, pick_or, ↓reduceIte, Nat.reduceAdd, wI64, wI32, wI16, wI8, wU8, List.length_map, Int.toNat_natCast, i64s_set, tn1, natadd, natadd1, natsub, natsub1, natmul2, natmul2', wU64, hfd, natadd20]; rfl)
          refine gc1 ?_ (call1 (merge_ok 1048576) (ys2, p, p + w, n, fn, c, N) [0] (hargs := (by (try dsimp only); exact args_cons (arga_own rfl) (args_cons arga_val (args_cons arga_val (args_cons arga_val (args_cons (arga_does hC.does) args_nil)))))) (hpre := by (try dsimp only); exact ⟨⟨half_merge hH hp2 (by omega) hm1 (by omega) (Nat.le_refl _) hn60, hC⟩, ⟨hry2, by omega⟩, by omega⟩)) (hst := by simp +decide (disch := omega) only [nrm, lk_nrm, dc_nrm, mk_nrm, mf_nrm, ti_nrm, ls_nrm, mp_nrm, nb_nrm, hset, pick_and, pick_or, ↓reduceIte, Nat.reduceAdd, wI64, wI32, wI16, wI8, wU8, List.length_map, Int.toNat_natCast, i64s_set, tn1, natadd, natadd1, natsub, natsub1, natmul2, natmul2', wU64, hfd, natadd20]; rfl)
          refine r1 T0_ok hP hm hN ?_
          refine g1 ?_ (hst := by simp +decide (disch := omega) only [nrm, lk_nrm, dc_nrm, mk_nrm, mf_nrm, ti_nrm, ls_nrm, mp_nrm, nb_nrm, hset, pick_and, pick_or, ↓reduceIte, Nat.reduceAdd, wI64, wI32, wI16, wI8, wU8, List.length_map, Int.toNat_natCast, i64s_set, tn1, natadd, natadd1, natsub, natsub1, natmul2, natmul2', wU64, hfd, natadd20]; rfl)
          refine g1 ?_ (hst := by simp +decide (disch := omega) only [nrm, lk_nrm, dc_nrm, mk_nrm, mf_nrm, ti_nrm, ls_nrm, mp_nrm, nb_nrm, hset, pick_and, pick_or, ↓reduceIte, Nat.reduceAdd, wI64, wI32, wI16, wI8, wU8, List.length_map, Int.toNat_natCast, i64s_set, tn1, natadd, natadd1, natsub, natsub1, natmul2, natmul2', wU64, hfd, natadd20]; rfl)
          refine g1 ?_ (hst := by simp +decide (disch := omega) only [nrm, lk_nrm, dc_nrm, mk_nrm, mf_nrm, ti_nrm, ls_nrm, mp_nrm, nb_nrm, hset, pick_and, pick_or, ↓reduceIte, Nat.reduceAdd, wI64, wI32, wI16, wI8, wU8, List.length_map, Int.toNat_natCast, i64s_set, tn1, natadd, natadd1, natsub, natsub1, natmul2, natmul2', wU64, hfd, natadd20]; rfl)
          first | exact ⟨_, _, by omega, weak_sl (sub_cons rfl (sub_cons rfl (sub_cons rfl (sub_cons rfl (sub_nil))))), 2 * w, srt c p n ys2, by omega, hLv, rfl, rfl⟩ | exact ⟨_, _, by omega, weak_sl (sub_cons rfl (sub_cons rfl (sub_cons rfl (sub_cons rfl (sub_nil))))), 2 * w, ys2, by omega, hLv, rfl, rfl⟩
        · skip
          have hm1 : ¬ p + w < n := by have h := h54; simp only [decide_eq_false_iff_not] at h; omega
          have hLv : Lv c n (2 * w) ys2 := by rw [if_neg hm1] at hLv0; exact hLv0
          refine awp_skip ?_
          refine r1 T0_ok hP hm hN ?_
          refine g1 ?_ (hst := by simp +decide (disch := omega) only [nrm, lk_nrm, dc_nrm, mk_nrm, mf_nrm, ti_nrm, ls_nrm, mp_nrm, nb_nrm, hset, pick_and, pick_or, ↓reduceIte, Nat.reduceAdd, wI64, wI32, wI16, wI8, wU8, List.length_map, Int.toNat_natCast, i64s_set, tn1, natadd, natadd1, natsub, natsub1, natmul2, natmul2', wU64, hfd, natadd20]; rfl)
          refine g1 ?_ (hst := by simp +decide (disch := omega) only [nrm, lk_nrm, dc_nrm, mk_nrm, mf_nrm, ti_nrm, ls_nrm, mp_nrm, nb_nrm, hset, pick_and, pick_or, ↓reduceIte, Nat.reduceAdd, wI64, wI32, wI16, wI8, wU8, List.length_map, Int.toNat_natCast, i64s_set, tn1, natadd, natadd1, natsub, natsub1, natmul2, natmul2', wU64, hfd, natadd20]; rfl)
          refine g1 ?_ (hst := by simp +decide (disch := omega) only [nrm, lk_nrm, dc_nrm, mk_nrm, mf_nrm, ti_nrm, ls_nrm, mp_nrm, nb_nrm, hset, pick_and, pick_or, ↓reduceIte, Nat.reduceAdd, wI64, wI32, wI16, wI8, wU8, List.length_map, Int.toNat_natCast, i64s_set, tn1, natadd, natadd1, natsub, natsub1, natmul2, natmul2', wU64, hfd, natadd20]; rfl)
          first | exact ⟨_, _, by omega, weak_sl (sub_cons rfl (sub_cons rfl (sub_cons rfl (sub_cons rfl (sub_nil))))), 2 * w, srt c p n ys2, by omega, hLv, rfl, rfl⟩ | exact ⟨_, _, by omega, weak_sl (sub_cons rfl (sub_cons rfl (sub_cons rfl (sub_cons rfl (sub_nil))))), 2 * w, ys2, by omega, hLv, rfl, rfl⟩
    · skip
      have hwn : ¬ w < n := by simpa using h30
      have hfin : srt c 0 n (iotaL n) = ys := lv_end hC.ord hL (by omega)
      refine awp_exit ?_
      repeat refine thenA_exit ?_
      refine blockA_hit ?_
      refine fin_mk [] rfl rfl ?_ (by simp only [hfin]; exact objs_cons rfl rfl rfl rfl rfl (.inl rfl) objs_nil) (by decide)
      rfl

noncomputable abbrev s_slices_SortStableFunc_int_int : Spec (Nat × D × (Int → Int → Int) × Int) where
  args := fun x => [.own 0, x.2.1]
  pre := fun x => CmpOk x.2.2.1 x.2.2.2 x.2.1 ∧ x.1 ≤ 60 ∧ (x.1 : Int) ≤ x.2.2.2
  obs := fun x => [⟨3, 1, false, i64s (iotaL x.1)⟩]
  out := fun x => [⟨3, 1, false, i64s (srt x.2.2.1 0 x.1 (iotaL x.1))⟩]
  res := fun x => .tup []

set_option maxRecDepth 20000 in
set_option maxHeartbeats 1000000 in
theorem ok_slices_SortStableFunc_int_int : FnOk Pr 58 s_slices_SortStableFunc_int_int := by
  refine fn_ok 2 1 T0_ok Go.Proofs.Try.func58 rfl (enters_of Go.Proofs.Try.func58 rfl rfl) (fun _ => rfl) (fun _ => rfl) (fun _ => rfl) ?_
  rintro ⟨n, fn, c, N⟩ ⟨hC, hn60, hnN⟩ C hP hN hm hG
  change awp C _ _ ⟨[(0, .own 0), (1, fn)], [(0, ⟨3, 1, false, i64s (iotaL n)⟩)], 1⟩
  simp only at hC hn60 hnN
  refine r1 T0_ok hP hm hN ?_
  refine g1 ?_ (hst := by simp +decide (disch := omega) only [nrm, lk_nrm, dc_nrm, mk_nrm, mf_nrm, ti_nrm, ls_nrm, mp_nrm, nb_nrm, hset, pick_and, pick_or, ↓reduceIte, Nat.reduceAdd, wI64, wI32, wI16, wI8, wU8, List.length_map, Int.toNat_natCast, iotaL_len]; rfl)
  refine g1 ?_ (hst := by simp +decide (disch := omega) only [nrm, lk_nrm, dc_nrm, mk_nrm, mf_nrm, ti_nrm, ls_nrm, mp_nrm, nb_nrm, hset, pick_and, pick_or, ↓reduceIte, Nat.reduceAdd, wI64, wI32, wI16, wI8, wU8, List.length_map, Int.toNat_natCast, iotaL_len]; rfl)
  refine g1 ?_ (hst := by simp +decide (disch := omega) only [nrm, lk_nrm, dc_nrm, mk_nrm, mf_nrm, ti_nrm, ls_nrm, mp_nrm, nb_nrm, hset, pick_and, pick_or, ↓reduceIte, Nat.reduceAdd, wI64, wI32, wI16, wI8, wU8, List.length_map, Int.toNat_natCast, iotaL_len]; rfl)
  refine g1 ?_ (hst := by simp +decide (disch := omega) only [nrm, lk_nrm, dc_nrm, mk_nrm, mf_nrm, ti_nrm, ls_nrm, mp_nrm, nb_nrm, hset, pick_and, pick_or, ↓reduceIte, Nat.reduceAdd, wI64, wI32, wI16, wI8, wU8, List.length_map, Int.toNat_natCast, iotaL_len]; rfl)
  refine gc1 ?_ (call1 ok_slices_stableCmpFunc_int (n, fn, c, N) [0] (hargs := (by (try dsimp only); exact args_cons (arga_own rfl) (args_cons arga_val (args_cons (arga_does hC.does) args_nil)))) (hpre := by (try dsimp only); exact ⟨hC, hn60, hnN⟩)) (hst := by simp +decide (disch := omega) only [nrm, lk_nrm, dc_nrm, mk_nrm, mf_nrm, ti_nrm, ls_nrm, mp_nrm, nb_nrm, hset, pick_and, pick_or, ↓reduceIte, Nat.reduceAdd, wI64, wI32, wI16, wI8, wU8, List.length_map, Int.toNat_natCast, iotaL_len]; rfl)
  refine fin_mk [] rfl rfl ?_ (objs_cons rfl rfl rfl rfl rfl (.inl rfl) objs_nil) (by decide)
  rfl

noncomputable abbrev s_I_upTo : Spec Nat where
  args := fun n => [.val (.int .i64 ((n : Nat) : Int))]
  pre := fun n => n ≤ 1048576
  new := fun n => [⟨3, 1, false, i64s (iotaL n)⟩]
  res := fun n => .own 0

set_option maxRecDepth 20000 in
set_option maxHeartbeats 1000000 in
theorem ok_I_upTo : FnOk Pr 47 s_I_upTo := by
  refine fn_ok 1 0 T0_ok Go.Proofs.Try.func47 rfl (enters_of Go.Proofs.Try.func47 rfl rfl) (fun _ => rfl) (fun _ => rfl) (fun _ => rfl) ?_
  rintro k hn C hP hN hm hG
  change awp C _ _ ⟨[(0, .val (.int .i64 ((k : Nat) : Int)))], [], 0⟩
  have hn : k ≤ 1048576 := hn
  refine awp_seq ?_
  refine r1 T0_ok hP hm hN ?_
  refine g1 ?_
  refine awp_seq ?_
  refine r1 T0_ok hP hm hN ?_
  refine g1 ?_
  refine awp_seq ?_
  refine awp_seq ?_
  refine r1 T0_ok hP hm hN ?_
  refine g1 ?_
  refine g1 ?_
  refine awp_block ?_
  refine awp_loop (fun n st => ∃ i : Nat, i ≤ k ∧ n = k - i ∧ st = ⟨[(6, .val (.int .i64 ((i : Nat) : Int))), (5, .val (.int .i64 ((k : Nat) : Int))), (3, .own 0)], [(0, ⟨3, 1, false, i64s (iotaL i)⟩)], 1⟩) (k) ⟨_, (by exact Weak.trans (weak_nil 3 3 1 rfl) (weak_sl (sub_cons rfl (sub_cons rfl (sub_cons rfl (sub_nil)))))), 0, by omega, rfl, rfl⟩ ?_
  rintro n st ⟨i, hii, hni, rfl⟩
  have hil := iotaL_len i
  refine awp_seq ?_
  refine r1 T0_ok hP hm hN ?_
  refine g1 ?_
  refine awp_seq ?_
  refine awp_cond rfl (fun hc0 => ?_) (fun hc0 => ?_)
  · skip
    have hlti : i < k := by simpa using hc0
    refine awp_skip ?_
    refine awp_seq ?_
    refine awp_block ?_
    refine awp_seq ?_
    refine r1 T0_ok hP hm hN ?_
    refine g1 ?_
    refine g1 ?_
    refine r1 T0_ok hP hm hN ?_
    refine g1 ?_
    refine g1 ?_
    refine g1 ?_
    refine ga1 ?_
    refine g1 ?_
    refine r1 T0_ok hP hm hN ?_
    refine g1 ?_
    refine g1 ?_
    refine ⟨k - (i + 1), _, by omega, (by rw [iotaL_suc, i64s_app2]; exact Weak.trans (weak_drop 1) (Weak.trans (weak_nx (nx' := 1) (by omega) (by rfl)) (weak_sl (sub_cons rfl (sub_cons rfl (sub_cons rfl (sub_nil))))))), i + 1, by omega, rfl, rfl⟩
  · skip
    have hgei : ¬ i < k := by simpa using hc0
    have heqi : i = k := by omega
    rw [heqi]
    refine awp_exit ?_
    repeat refine thenA_exit ?_
    refine blockA_hit ?_
    refine awp_seq ?_
    refine r1 T0_ok hP hm hN ?_
    refine g1 ?_
    refine g1 ?_
    refine awp_ret ?_
    refine fin_mk [0] rfl rfl ?_ (objs_cons rfl rfl rfl rfl rfl (.inl rfl) objs_nil) (by decide)
    rfl

def cP (bs : List Bk) (x y : Int) : Int := cmpU (bs.getD x.toNat bk0) (bs.getD y.toNat bk0)
theorem ord_cP (bs : List Bk) : OrdC (cP bs) := ⟨fun x y => cmpU_anti _ _, fun x y z h1 h2 => cmpU_trans h1 h2⟩

noncomputable abbrev s_I_sortedPlaces_1 : Spec ((Int × Int) × List Bk) where
  args := fun x => [i64D x.1.1, i64D x.1.2, .rptr 1 [[.sl 8 (bks x.2)]] 0 0]
  pre := fun x => ((0 ≤ x.1.1 ∧ x.1.1 < x.2.length) ∧ 0 ≤ x.1.2 ∧ x.1.2 < x.2.length) ∧ x.2.length ≤ 1048576
  res := fun x => i64D (cP x.2 x.1.1 x.1.2)

set_option maxRecDepth 20000 in
set_option maxHeartbeats 1000000 in
theorem ok_I_sortedPlaces_1 : FnOk Pr 59 s_I_sortedPlaces_1 := by
  refine fn_ok 3 0 T0_ok Go.Proofs.Try.func59 rfl (enters_of Go.Proofs.Try.func59 rfl rfl) (fun _ => rfl) (fun _ => rfl) (fun _ => rfl) ?_
  rintro ⟨⟨x, y⟩, bs⟩ ⟨⟨⟨h1, h2⟩, h3, h4⟩, hl⟩ C hP hN hm hG
  change awp C _ _ ⟨[(0, i64D x), (1, i64D y), (2, .rptr 1 [[.sl 8 (bks bs)]] 0 0)], [], 0⟩
  simp only at h1 h2 h3 h4 hl
  refine awp_seq ?_
  refine r1 T0_ok hP hm hN ?_
  refine g1 ?_
  refine awp_seq ?_
  refine awp_draw T0_ok hP hm hN Pr_mix [0, 1, 2, 3, 4, 5, 6, 7, 8, 9, 10, 11] [8] _ rfl (by rfl) ?_
  refine d1 T0_ok ?_
  refine d1 T0_ok ?_
  refine d1 T0_ok ?_
  refine d1 T0_ok ?_
  refine d1 T0_ok ?_
  refine d1 T0_ok ?_
  refine d1 T0_ok ?_
  refine d1 T0_ok ?_
  refine dp1 ?_ (call1 ok_I_compare (_, _) [])
  refine d1 T0_ok ?_
  refine dreg_nil ?_
  refine awp_ret ?_
  refine fin_mk [] rfl rfl ?_ trivial (by decide)
  rfl

theorem cmp_places {bs : List Bk} (hl : bs.length ≤ 1048576) : CmpOk (cP bs) bs.length (.clo (.func 59) [.rptr 1 [[.sl 8 (bks bs)]] 0 0]) :=
  ⟨ord_cP bs, 59, [], [.rptr 1 [[.sl 8 (bks bs)]] 0 0], (s_I_sortedPlaces_1).comap (fun x => (x, bs)), rfl, rfl, rfl, ok_I_sortedPlaces_1.comap _, fun _ => rfl, fun _ h => ⟨h, hl⟩, fun _ => rfl, fun _ => rfl, fun _ => rfl, fun _ => rfl⟩
noncomputable def plcL (bs : List Bk) : List Int := srt (cP bs) 0 bs.length (iotaL bs.length)
theorem plcL_len (bs : List Bk) : (plcL bs).length = bs.length := by rw [plcL, srt_len, iotaL_len]

noncomputable abbrev s_I_sortedPlaces : Spec (List Bk) where
  args := fun bs => [.sl 8 (bks bs)]
  pre := fun bs => bs.length ≤ 60
  new := fun bs => [⟨3, 1, false, i64s (plcL bs)⟩]
  res := fun bs => .own 0

set_option maxRecDepth 20000 in
set_option maxHeartbeats 1000000 in
theorem ok_I_sortedPlaces : FnOk Pr 41 s_I_sortedPlaces := by
  refine fn_ok 1 0 T0_ok Go.Proofs.Try.func41 rfl (enters_of Go.Proofs.Try.func41 rfl rfl) (fun _ => rfl) (fun _ => rfl) (fun _ => rfl) ?_
  rintro bs hl C hP hN hm hG
  change awp C _ _ ⟨[(0, .sl 8 (bks bs))], [], 0⟩
  have hl : bs.length ≤ 60 := hl
  refine awp_seq ?_
  refine r1 T0_ok hP hm hN ?_
  refine g1 ?_
  refine g1 ?_
  refine awp_seq ?_
  refine r1 T0_ok hP hm hN ?_
  refine g1 ?_
  refine g1 ?_
  refine gc1 ?_ (call1 ok_I_upTo _ [] (hpre := by (try dsimp only); omega))
  refine g1 ?_
  refine awp_seq ?_
  refine r1 T0_ok hP hm hN ?_
  refine g1 ?_
  refine g1 ?_
  refine gc1 ?_ (call1 ok_slices_SortStableFunc_int_int (bs.length, .clo (.func 59) [.rptr 1 [[.sl 8 (bks bs)]] 0 0], cP bs, bs.length) [1] (hpre := by (try dsimp only); exact ⟨cmp_places (by omega), hl, Int.le_refl _⟩))
  refine awp_seq ?_
  refine r1 T0_ok hP hm hN ?_
  refine g1 ?_
  refine g1 ?_
  refine awp_ret ?_
  refine fin_mk [1] rfl rfl ?_ (objs_cons rfl rfl rfl rfl rfl (.inl rfl) objs_nil) (by decide)
  rfl
end Go.Proofs.Ythdgihkffcmkiaa.Abs

