import Derived.Test.YtamdnmkdhpleiaaJ2
set_option linter.unusedVariables false
set_option linter.unusedSimpArgs false
namespace Go.Proofs.Ytamdnmkdhpleiaa.Abs
open Go Go.RowKit

def shPl (p : Int) (y : Pl) : Pl := (p + y.1, y.2)
noncomputable def bordB (xs ys : List Pl) : Bool := (decide ((xs.length : Int) > 0) && decide ((ys.length : Int) > 0)) && decide (cmpU (ys.getD 0 pl0).2 (xs.getD ((xs.length : Int) - 1).toNat pl0).2 < 0)
theorem srt_of_valid {p : Int} {xs : List Pl} (h : validR p xs = true) : sortedB cmpU (xs.map Prod.snd) = true := by
  rw [validR, Bool.and_eq_true] at h
  exact h.2
theorem join_sorted {xs ys : List Pl} (hA : sortedB cmpU (xs.map Prod.snd) = true) (hB : sortedB cmpU (ys.map Prod.snd) = true) : (!sortedB cmpU (xs.map Prod.snd ++ ys.map Prod.snd)) = bordB xs ys := by
  have hg : ∀ (zs : List Pl) j, (zs.map Prod.snd).getD j bk0 = (zs.getD j pl0).2 := fun zs j => by
    rcases Nat.lt_or_ge j zs.length with h | h
    · simp [List.getD, h]
    · simp [List.getD, h]
      rfl
  have g1 : ∀ j, j < xs.length → (xs.map Prod.snd ++ ys.map Prod.snd).getD j bk0 = (xs.getD j pl0).2 := fun j hj => by
    rw [← hg xs j]
    simp only [List.getD, List.getElem?_append, List.length_map, hj, if_true]
  have g2 : ∀ j, xs.length ≤ j → (xs.map Prod.snd ++ ys.map Prod.snd).getD j bk0 = (ys.getD (j - xs.length) pl0).2 := fun j hj => by
    rw [← hg ys (j - xs.length)]
    simp only [List.getD, List.getElem?_append, List.length_map, show ¬ j < xs.length by omega, if_false]
  rw [sortedB, ask_iff] at hA hB
  have e : ((xs.length : Int) - 1).toNat = xs.length - 1 := by omega
  suffices hs : sortedB cmpU (xs.map Prod.snd ++ ys.map Prod.snd) = !bordB xs ys by rw [hs, Bool.not_not]
  rw [bordB, e, Bool.eq_iff_iff, sortedB, ask_iff]
  simp only [Bool.not_eq_true', Bool.and_eq_false_iff, decide_eq_false_iff_not]
  simp only [List.length_append, List.length_map] at *
  constructor
  · intro h
    by_cases h1 : 0 < xs.length
    · by_cases h2 : 0 < ys.length
      · have := h (xs.length - 1) (by omega)
        rw [show xs.length - 1 + 1 = xs.length by omega, g1 (xs.length - 1) (by omega), g2 xs.length (Nat.le_refl _), Nat.sub_self] at this
        exact .inr this
      · exact .inl (.inr (by omega))
    · exact .inl (.inl (by omega))
  · intro h q hq
    rcases Nat.lt_or_ge (q + 1) xs.length with h1 | h1
    · rw [g1 _ h1, g1 _ (by omega), ← hg, ← hg]
      exact hA q h1
    · rcases Nat.lt_or_ge q xs.length with h2 | h2
      · rw [g1 _ h2, g2 _ h1, show q + 1 - xs.length = 0 by omega]
        rcases h with (h | h) | h
        · omega
        · omega
        · rw [show q = xs.length - 1 by omega]; exact h
      · rw [g2 _ h2, g2 _ h1, ← hg, ← hg, show q + 1 - xs.length = q - xs.length + 1 by omega]
        exact hB (q - xs.length) (by omega)
noncomputable def joinR (bad : Bool) (p : Int) (xs : List Pl) (q : Int) (ys : List Pl) : Int × List Pl × Int := if bad then (0, [], 1) else if bordB xs ys then (0, [], 4) else if decide (p + q > 60) then (0, [], 3) else (p + q, xs ++ ys.map (shPl p), 0)
theorem joinR_len (bad : Bool) (p : Int) (xs : List Pl) (q : Int) (ys : List Pl) : (joinR bad p xs q ys).2.1.length ≤ xs.length + ys.length := by
  unfold joinR
  (repeat' split) <;> simp
theorem join_same {p q : Int} {xs ys : List Pl} : joinR (!okR p xs || !okR q ys) p xs q ys = joinR (!validR p xs || !validR q ys) p xs q ys := by rw [okR_validR, okR_validR]

noncomputable abbrev s_slices_Clone_I_Placed_I_Placed : Spec (List Pl) where
  args := fun xs => [.sl 9 (pls xs)]
  pre := fun xs => xs.length ≤ 1048576
  new := fun xs => [⟨47, 9, false, pls xs⟩]
  res := fun xs => .own 0

set_option maxRecDepth 20000 in
set_option maxHeartbeats 1000000 in
theorem ok_slices_Clone_I_Placed_I_Placed : FnOk Pr 26 s_slices_Clone_I_Placed_I_Placed := by
  refine fn_ok 1 0 T0_ok Go.Proofs.Try.func26 rfl (enters_of Go.Proofs.Try.func26 rfl rfl) (fun _ => rfl) (fun _ => rfl) (fun _ => rfl) ?_
  rintro xs hl C hP hN hm hG
  change awp C _ _ ⟨[(0, .sl 9 (pls xs))], [], 0⟩
  have hl : xs.length ≤ 1048576 := hl
  refine awp_seq ?_
  refine r1 T0_ok hP hm hN ?_
  refine g1 ?_
  refine awp_seq ?_
  refine awp_seq ?_
  refine awp_sreg rfl ?_
  refine sg1 T0_ok hP hm hN ?_
  refine sreg_nilcmp T0_ok hP hN (by decide) rfl rfl (fun bz hbz => ?_)
  refine sreg_rest T0_ok hP hm hN ?_
  refine awp_cond rfl (fun hc0 => ?_) (fun hc0 => ?_)
  · skip
    have hxs : xs = [] := by have h := hbz hc0; simpa using h
    subst hxs
    refine awp_seq ?_
    refine r1 T0_ok hP hm hN ?_
    refine g1 ?_
    refine awp_weak (weak_nil 2 47 9 rfl) ?_
    refine awp_ret ?_
    refine fin_mk [0] rfl rfl ?_ (objs_cons rfl rfl rfl rfl rfl (.inl rfl) objs_nil) (by decide)
    rfl
  · skip
    refine awp_skip ?_
    refine awp_seq ?_
    refine r1 T0_ok hP hm hN ?_
    refine g1 ?_
    refine g1 ?_
    refine ga1 ?_
    refine g1 ?_
    refine awp_ret ?_
    refine fin_mk [0] rfl rfl ?_ (objs_cons rfl rfl rfl rfl rfl (.inl rfl) objs_nil) (by decide)
    rfl

noncomputable abbrev s_S_JoinRacks : Spec ((Int × List Pl) × (Int × List Pl)) where
  args := fun x => [rackD x.1, rackD x.2]
  pre := fun x => ((isI16 x.1.1 ∧ ∀ b ∈ x.1.2, isPl b) ∧ (isI16 x.2.1 ∧ ∀ b ∈ x.2.2, isPl b)) ∧ x.1.2.length + x.2.2.length ≤ 1048576
  new := fun x => [⟨47, 9, false, pls (joinR (!okR x.1.1 x.1.2 || !okR x.2.1 x.2.2) x.1.1 x.1.2 x.2.1 x.2.2).2.1⟩]
  res := fun x => .tup [.agg [.val (.int .i16 (joinR (!okR x.1.1 x.1.2 || !okR x.2.1 x.2.2) x.1.1 x.1.2 x.2.1 x.2.2).1), .own 0], .val (.int .i64 (joinR (!okR x.1.1 x.1.2 || !okR x.2.1 x.2.2) x.1.1 x.1.2 x.2.1 x.2.2).2.2)]

set_option maxRecDepth 20000 in
set_option maxHeartbeats 8000000 in
theorem ok_S_JoinRacks : FnOk Pr 12 s_S_JoinRacks := by
  refine fn_ok 2 0 T0_ok Go.Proofs.Try.func12 rfl (enters_of Go.Proofs.Try.func12 rfl rfl) (fun _ => rfl) (fun _ => rfl) (fun _ => rfl) ?_
  rintro ⟨⟨p, xs⟩, q, ys⟩ ⟨⟨⟨hpp, hv⟩, hqq, hw⟩, hl⟩ C hP hN hm hG
  change awp C _ _ ⟨[(0, .agg [.val (.int .i16 p), .sl 9 (pls xs)]), (1, .agg [.val (.int .i16 q), .sl 9 (pls ys)])], [], 0⟩
  simp only at hv hl hw
  refine awp_seq ?_
  refine r1 T0_ok hP hm hN ?_
  refine g1 ?_
  refine g1 ?_
  refine g1 ?_
  refine g1 ?_
  refine awp_seq ?_
  refine awp_seq ?_
  refine r1 T0_ok hP hm hN ?_
  refine gc1 ?_ (call1 ok_S_l05Ok (p, xs) [] (hpre := by (try dsimp only); exact ⟨⟨hpp, hv⟩, by omega⟩))
  refine g1 ?_
  refine g1 ?_
  refine ggc1 ?_ (hs := by intro hb; simp +decide only [hb, gd_tt, gd_ff, beq_self_eq_true, Bool.true_and, beq_true]; exact ⟨rfl, _, call1 ok_S_l05Ok (q, ys) [] (hpre := by (try dsimp only); exact ⟨⟨hqq, hw⟩, by omega⟩), rfl, rfl, rfl⟩)
  refine gg1 ?_
  refine g1 ?_
  refine awp_cond rfl (fun hc0 => ?_) (fun hc0 => ?_)
  · skip
    have hr : joinR (!okR p xs || !okR q ys) p xs q ys = (0, [], 1) := by rw [joinR, if_pos hc0]
    refine awp_seq ?_
    refine r1 T0_ok hP hm hN ?_
    refine g1 ?_
    refine g1 ?_
    refine g1 ?_
    refine awp_weak (weak_nilO 2 0 1 47 9 rfl rfl rfl rfl) ?_
    refine awp_ret ?_
    refine fin_mk [3] rfl rfl ?_ (by simp only [hr]; exact objs_cons rfl rfl rfl rfl rfl (.inl rfl) objs_nil) (by decide)
    show D.tup [.agg [.val (.int .i16 (joinR (!okR p xs || !okR q ys) p xs q ys).1), .own 3], .val (.int .i64 (joinR (!okR p xs || !okR q ys) p xs q ys).2.2)] = _
    rw [hr]
    rfl
  · skip
    have hok1 : okR p xs = true := by revert hc0; cases okR p xs <;> simp
    have hok2 : okR q ys = true := by revert hc0; cases okR q ys <;> simp
    have hva : validR p xs = true := by rw [← okR_validR]; exact hok1
    have hvb : validR q ys = true := by rw [← okR_validR]; exact hok2
    obtain ⟨⟨hp1, hp2⟩, hat⟩ := validR_b hva
    obtain ⟨⟨hq1, hq2⟩, hbt⟩ := validR_b hvb
    have hjs := join_sorted (srt_of_valid hva) (srt_of_valid hvb)
    refine awp_skip ?_
    refine awp_seq ?_
    refine awp_seq ?_
    refine awp_draw T0_ok hP hm hN Pr_mix [0, 1, 2, 3, 4, 5, 6, 7, 8, 9, 10, 11] [23] _ rfl (by rfl) ?_
    refine d1 T0_ok ?_
    refine d1 T0_ok ?_
    refine d1 T0_ok ?_
    refine d1 T0_ok ?_
    refine d1 T0_ok ?_
    refine dg1 T0_ok ?_
    refine dg1 T0_ok ?_
    refine dg1 T0_ok ?_
    refine dg1 T0_ok ?_
    refine d1 T0_ok ?_
    refine d1 T0_ok ?_
    refine dg1 T0_ok ?_
    refine dg1 T0_ok ?_
    refine dg1 T0_ok ?_ (hs := by intro hb; simp +decide only [hb, gd_tt, gd_ff, beq_self_eq_true, Bool.true_and, beq_true]; exact ⟨_, by first | rfl | exact astep_load_r (by rfl) (by rfl) (by exact i64s_get _ _ (by omega)) (by rfl) | exact astep_load_r (by rfl) (by rfl) (by first | exact bks_get _ _ (by omega) | exact pls_get _ _ (by omega) | exact ints_get _ _ _ (by omega) | exact boolD_get _ _ (by omega) | exact i64ss_get _ _ (by omega) | assumption) (by rfl) | exact astep_store_p (by rfl) (by rfl) (by rfl) (by rfl) (by exact i64s_get _ _ (by omega)), by exact ⟨rfl, by omega, (by simp only [List.length_map]; simp at hb; omega)⟩⟩)
    refine dg1 T0_ok ?_
    refine dg1 T0_ok ?_
    refine dg1 T0_ok ?_
    refine dg1 T0_ok ?_
    refine dg1 T0_ok ?_
    refine dg1 T0_ok ?_
    refine dg1 T0_ok ?_
    refine dg1 T0_ok ?_ (hs := by intro hb; simp +decide only [hb, gd_tt, gd_ff, beq_self_eq_true, Bool.true_and, beq_true]; exact ⟨_, by first | rfl | exact astep_load_r (by rfl) (by rfl) (by exact i64s_get _ _ (by omega)) (by rfl) | exact astep_load_r (by rfl) (by rfl) (by first | exact bks_get _ _ (by omega) | exact pls_get _ _ (by omega) | exact ints_get _ _ _ (by omega) | exact boolD_get _ _ (by omega) | exact i64ss_get _ _ (by omega) | assumption) (by rfl) | exact astep_store_p (by rfl) (by rfl) (by rfl) (by rfl) (by exact i64s_get _ _ (by omega)), by exact ⟨rfl, (by simp at hb; omega), (by simp only [List.length_map]; simp at hb; omega)⟩⟩)
    refine dg1 T0_ok ?_
    refine dgp1 ?_ (hr := by intro hb; simp +decide only [hb, gd_tt, gd_ff, beq_self_eq_true, Bool.true_and, beq_true]; exact ⟨_, call1 ok_S_l01Usual ((_, _, _, (ys.getD 0 pl0).1, (ys.getD 0 pl0).2), (_, _, _, (xs.getD ((xs.length : Int) - 1).toNat pl0).1, (xs.getD ((xs.length : Int) - 1).toNat pl0).2), true) [] (hpre := by (try dsimp only); exact ⟨⟨pls_get _ _ (by simp at hb; omega), (hw _ (getD_mem' (by simp at hb; omega))).2⟩, ⟨pls_get _ _ (by simp at hb; omega), (hv _ (getD_mem' (by simp at hb; omega))).2⟩⟩), rfl, rfl, rfl⟩)
    refine dg1 T0_ok ?_
    refine d1 T0_ok ?_
    refine dreg_nil ?_
    refine awp_cond rfl (fun hc1 => ?_) (fun hc1 => ?_)
    · skip
      have hr : joinR (!okR p xs || !okR q ys) p xs q ys = (0, [], 4) := by rw [joinR, if_neg (by rw [hc0]; simp), if_pos (by exact hc1)]
      refine awp_seq ?_
      refine r1 T0_ok hP hm hN ?_
      refine g1 ?_
      refine g1 ?_
      refine g1 ?_
      refine awp_weak (weak_nilO 2 0 1 47 9 rfl rfl rfl rfl) ?_
      refine awp_ret ?_
      refine fin_mk [3] rfl rfl ?_ (by simp only [hr]; exact objs_cons rfl rfl rfl rfl rfl (.inl rfl) objs_nil) (by decide)
      show D.tup [.agg [.val (.int .i16 (joinR (!okR p xs || !okR q ys) p xs q ys).1), .own 3], .val (.int .i64 (joinR (!okR p xs || !okR q ys) p xs q ys).2.2)] = _
      rw [hr]
      rfl
    · skip
      have hcb : bordB xs ys = false := by exact hc1
      refine awp_skip ?_
      refine awp_seq ?_
      refine awp_seq ?_
      refine r1 T0_ok hP hm hN ?_
      refine g1 ?_
      refine g1 ?_
      refine g1 ?_
      refine g1 ?_
      refine g1 ?_
      refine g1 ?_
      refine g1 ?_
      refine g1 ?_
      refine awp_cond rfl (fun hc2 => ?_) (fun hc2 => ?_)
      · skip
        have hr : joinR (!okR p xs || !okR q ys) p xs q ys = (0, [], 3) := by rw [joinR, if_neg (by rw [hc0]; simp), if_neg (by rw [hcb]; simp), if_pos hc2]
        refine awp_seq ?_
        refine r1 T0_ok hP hm hN ?_
        refine g1 ?_
        refine g1 ?_
        refine g1 ?_
        refine awp_weak (weak_nilO 2 0 1 47 9 rfl rfl rfl rfl) ?_
        refine awp_ret ?_
        refine fin_mk [3] rfl rfl ?_ (by simp only [hr]; exact objs_cons rfl rfl rfl rfl rfl (.inl rfl) objs_nil) (by decide)
        show D.tup [.agg [.val (.int .i16 (joinR (!okR p xs || !okR q ys) p xs q ys).1), .own 3], .val (.int .i64 (joinR (!okR p xs || !okR q ys) p xs q ys).2.2)] = _
        rw [hr]
        rfl
      · skip
        have hr : joinR (!okR p xs || !okR q ys) p xs q ys = (p + q, xs ++ ys.map (shPl p), 0) := by rw [joinR, if_neg (by rw [hc0]; simp), if_neg (by rw [hcb]; simp), if_neg (by rw [hc2]; simp)]
        have hpq : p + q ≤ 60 := by simp at hc2; omega
        refine awp_skip ?_
        refine awp_seq ?_
        refine awp_join (st1 := ⟨[(6, .ptr 4 0 0), (2, .ptr 0 0 0), (3, .ptr 1 0 0), (4, .ptr 2 0 0)], [(4, ⟨29, 2, true, [[.val (.int .i16 (p + q)), .own 3]]⟩), (3, ⟨47, 9, false, pls xs⟩), (2, ⟨29, 2, true, [[.val (.int .i16 0), .nil]]⟩), (1, ⟨29, 2, true, [[.val (.int .i16 q), .sl 9 (pls ys)]]⟩), (0, ⟨29, 2, true, [[.val (.int .i16 p), .sl 9 (pls xs)]]⟩)], 5⟩) ?_ ?_
        · skip
          refine awp_any hP Pr_mix _ rfl 12 rfl ?_
          refine anyS_cut (fuel' := 0) (listed' := #[true, true, true, true, true, true, true, true, true, true, true, true]) (st' := ⟨[(6, .ptr 4 0 0), (2, .ptr 0 0 0), (3, .ptr 1 0 0), (4, .ptr 2 0 0)], [(4, ⟨29, 2, true, [[.val (.int .i16 (p + q)), .own 3]]⟩), (3, ⟨47, 9, false, pls xs⟩), (2, ⟨29, 2, true, [[.val (.int .i16 0), .nil]]⟩), (1, ⟨29, 2, true, [[.val (.int .i16 q), .sl 9 (pls ys)]]⟩), (0, ⟨29, 2, true, [[.val (.int .i16 p), .sl 9 (pls xs)]]⟩)], 5⟩) ?_ (fun hS0 => ?_)
          · skip
            refine anyS_done (by rfl) ?_
            exact ⟨rfl, rfl⟩
          refine anyS_cut (fuel' := 1) (listed' := #[true, true, true, true, true, true, true, true, true, true, true, false]) (st' := ⟨[(60, .agg [.val (.int .i16 (p + q)), .own 3]), (6, .ptr 4 0 0), (2, .ptr 0 0 0), (3, .ptr 1 0 0), (4, .ptr 2 0 0)], [(4, ⟨29, 2, true, [[.val (.int .i16 0), .nil]]⟩), (3, ⟨47, 9, false, pls xs⟩), (2, ⟨29, 2, true, [[.val (.int .i16 0), .nil]]⟩), (1, ⟨29, 2, true, [[.val (.int .i16 q), .sl 9 (pls ys)]]⟩), (0, ⟨29, 2, true, [[.val (.int .i16 p), .sl 9 (pls xs)]]⟩)], 5⟩) ?_ (fun hS1 => ?_)
          · skip
            refine anyS_cons T0_ok hP hm hN (by rfl) [11] (by rfl) rfl ?_
            refine ⟨⟨_, rfl, rfl, ?_⟩, trivial⟩
            refine g1 ?_
            exact anyS_weak (st' := ⟨[(6, .ptr 4 0 0), (2, .ptr 0 0 0), (3, .ptr 1 0 0), (4, .ptr 2 0 0)], [(4, ⟨29, 2, true, [[.val (.int .i16 (p + q)), .own 3]]⟩), (3, ⟨47, 9, false, pls xs⟩), (2, ⟨29, 2, true, [[.val (.int .i16 0), .nil]]⟩), (1, ⟨29, 2, true, [[.val (.int .i16 q), .sl 9 (pls ys)]]⟩), (0, ⟨29, 2, true, [[.val (.int .i16 p), .sl 9 (pls xs)]]⟩)], 5⟩) (by first | exact weak_sl (sub_cons rfl (sub_cons rfl (sub_cons rfl (sub_cons rfl (sub_nil))))) | exact Weak.trans (weak_swap 3 4 (by omega) (by omega) (by omega) (by omega)) (Weak.trans (weak_perm (subhp_cons rfl (subhp_cons rfl (subhp_cons rfl (subhp_cons rfl (subhp_cons rfl (subhp_nil)))))) (subhp_cons rfl (subhp_cons rfl (subhp_cons rfl (subhp_cons rfl (subhp_cons rfl (subhp_nil))))))) (weak_sl (sub_cons rfl (sub_cons rfl (sub_cons rfl (sub_cons rfl (sub_nil)))))))) hS0
          refine anyS_cut (fuel' := 2) (listed' := #[true, true, true, true, true, true, true, true, true, true, false, false]) (st' := ⟨[(60, .agg [.val (.int .i16 (p + q)), .own 3]), (2, .ptr 0 0 0), (3, .ptr 1 0 0), (4, .ptr 2 0 0)], [(3, ⟨47, 9, false, pls xs⟩), (2, ⟨29, 2, true, [[.val (.int .i16 0), .nil]]⟩), (1, ⟨29, 2, true, [[.val (.int .i16 q), .sl 9 (pls ys)]]⟩), (0, ⟨29, 2, true, [[.val (.int .i16 p), .sl 9 (pls xs)]]⟩)], 4⟩) ?_ (fun hS2 => ?_)
          · skip
            refine anyS_cons T0_ok hP hm hN (by rfl) [10] (by rfl) rfl ?_
            refine ⟨⟨_, rfl, rfl, ?_⟩, trivial⟩
            refine g1 ?_
            exact anyS_weak (st' := ⟨[(60, .agg [.val (.int .i16 (p + q)), .own 3]), (6, .ptr 4 0 0), (2, .ptr 0 0 0), (3, .ptr 1 0 0), (4, .ptr 2 0 0)], [(4, ⟨29, 2, true, [[.val (.int .i16 0), .nil]]⟩), (3, ⟨47, 9, false, pls xs⟩), (2, ⟨29, 2, true, [[.val (.int .i16 0), .nil]]⟩), (1, ⟨29, 2, true, [[.val (.int .i16 q), .sl 9 (pls ys)]]⟩), (0, ⟨29, 2, true, [[.val (.int .i16 p), .sl 9 (pls xs)]]⟩)], 5⟩) (by first | exact weak_sl (sub_cons rfl (sub_cons rfl (sub_cons rfl (sub_cons rfl (sub_cons rfl (sub_nil)))))) | exact Weak.trans (weak_swap 3 4 (by omega) (by omega) (by omega) (by omega)) (Weak.trans (weak_perm (subhp_cons rfl (subhp_cons rfl (subhp_cons rfl (subhp_cons rfl (subhp_cons rfl (subhp_nil)))))) (subhp_cons rfl (subhp_cons rfl (subhp_cons rfl (subhp_cons rfl (subhp_cons rfl (subhp_nil))))))) (weak_sl (sub_cons rfl (sub_cons rfl (sub_cons rfl (sub_cons rfl (sub_cons rfl (sub_nil))))))))) hS1
          refine anyS_cut (fuel' := 2) (listed' := #[true, true, true, true, true, true, true, true, true, false, true, false]) (st' := ⟨[(55, .val (.int .i16 (p + q))), (59, .own 3), (6, .ptr 4 0 0), (2, .ptr 0 0 0), (3, .ptr 1 0 0), (4, .ptr 2 0 0)], [(4, ⟨29, 2, true, [[.val (.int .i16 0), .nil]]⟩), (3, ⟨47, 9, false, pls xs⟩), (2, ⟨29, 2, true, [[.val (.int .i16 0), .nil]]⟩), (1, ⟨29, 2, true, [[.val (.int .i16 q), .sl 9 (pls ys)]]⟩), (0, ⟨29, 2, true, [[.val (.int .i16 p), .sl 9 (pls xs)]]⟩)], 5⟩) ?_ (fun hS3 => ?_)
          · skip
            refine anyS_cons T0_ok hP hm hN (by rfl) [9] (by rfl) rfl ?_
            refine ⟨⟨_, rfl, rfl, ?_⟩, trivial⟩
            refine g1 ?_
            exact anyS_weak (st' := ⟨[(60, .agg [.val (.int .i16 (p + q)), .own 3]), (6, .ptr 4 0 0), (2, .ptr 0 0 0), (3, .ptr 1 0 0), (4, .ptr 2 0 0)], [(4, ⟨29, 2, true, [[.val (.int .i16 0), .nil]]⟩), (3, ⟨47, 9, false, pls xs⟩), (2, ⟨29, 2, true, [[.val (.int .i16 0), .nil]]⟩), (1, ⟨29, 2, true, [[.val (.int .i16 q), .sl 9 (pls ys)]]⟩), (0, ⟨29, 2, true, [[.val (.int .i16 p), .sl 9 (pls xs)]]⟩)], 5⟩) (by first | exact weak_sl (sub_cons rfl (sub_cons rfl (sub_cons rfl (sub_cons rfl (sub_cons rfl (sub_nil)))))) | exact Weak.trans (weak_swap 3 4 (by omega) (by omega) (by omega) (by omega)) (Weak.trans (weak_perm (subhp_cons rfl (subhp_cons rfl (subhp_cons rfl (subhp_cons rfl (subhp_cons rfl (subhp_nil)))))) (subhp_cons rfl (subhp_cons rfl (subhp_cons rfl (subhp_cons rfl (subhp_cons rfl (subhp_nil))))))) (weak_sl (sub_cons rfl (sub_cons rfl (sub_cons rfl (sub_cons rfl (sub_cons rfl (sub_nil))))))))) hS1
          refine anyS_cut (fuel' := 3) (listed' := #[true, true, true, true, true, true, true, true, true, false, false, false]) (st' := ⟨[(55, .val (.int .i16 (p + q))), (59, .own 3), (2, .ptr 0 0 0), (3, .ptr 1 0 0), (4, .ptr 2 0 0)], [(3, ⟨47, 9, false, pls xs⟩), (2, ⟨29, 2, true, [[.val (.int .i16 0), .nil]]⟩), (1, ⟨29, 2, true, [[.val (.int .i16 q), .sl 9 (pls ys)]]⟩), (0, ⟨29, 2, true, [[.val (.int .i16 p), .sl 9 (pls xs)]]⟩)], 4⟩) ?_ (fun hS4 => ?_)
          · skip
            refine anyS_cons T0_ok hP hm hN (by rfl) [9, 10] (by rfl) rfl ?_
            refine ⟨⟨_, rfl, rfl, ?_⟩, ?_⟩
            · skip
              refine g1 ?_
              exact anyS_weak (st' := ⟨[(60, .agg [.val (.int .i16 (p + q)), .own 3]), (2, .ptr 0 0 0), (3, .ptr 1 0 0), (4, .ptr 2 0 0)], [(3, ⟨47, 9, false, pls xs⟩), (2, ⟨29, 2, true, [[.val (.int .i16 0), .nil]]⟩), (1, ⟨29, 2, true, [[.val (.int .i16 q), .sl 9 (pls ys)]]⟩), (0, ⟨29, 2, true, [[.val (.int .i16 p), .sl 9 (pls xs)]]⟩)], 4⟩) (by exact weak_sl (sub_cons rfl (sub_cons rfl (sub_cons rfl (sub_cons rfl (sub_nil)))))) hS2
            refine ⟨⟨_, rfl, rfl, ?_⟩, trivial⟩
            refine g1 ?_
            exact anyS_weak (st' := ⟨[(55, .val (.int .i16 (p + q))), (59, .own 3), (6, .ptr 4 0 0), (2, .ptr 0 0 0), (3, .ptr 1 0 0), (4, .ptr 2 0 0)], [(4, ⟨29, 2, true, [[.val (.int .i16 0), .nil]]⟩), (3, ⟨47, 9, false, pls xs⟩), (2, ⟨29, 2, true, [[.val (.int .i16 0), .nil]]⟩), (1, ⟨29, 2, true, [[.val (.int .i16 q), .sl 9 (pls ys)]]⟩), (0, ⟨29, 2, true, [[.val (.int .i16 p), .sl 9 (pls xs)]]⟩)], 5⟩) (by first | exact weak_sl (sub_cons rfl (sub_cons rfl (sub_cons rfl (sub_cons rfl (sub_cons rfl (sub_cons rfl (sub_nil))))))) | exact Weak.trans (weak_swap 3 4 (by omega) (by omega) (by omega) (by omega)) (Weak.trans (weak_perm (subhp_cons rfl (subhp_cons rfl (subhp_cons rfl (subhp_cons rfl (subhp_cons rfl (subhp_nil)))))) (subhp_cons rfl (subhp_cons rfl (subhp_cons rfl (subhp_cons rfl (subhp_cons rfl (subhp_nil))))))) (weak_sl (sub_cons rfl (sub_cons rfl (sub_cons rfl (sub_cons rfl (sub_cons rfl (sub_cons rfl (sub_nil)))))))))) hS3
          refine anyS_cut (fuel' := 3) (listed' := #[true, true, true, true, true, true, true, true, false, false, true, false]) (st' := ⟨[(55, .val (.int .i16 (p + q))), (56, .own 3), (58, .sl 9 (pls xs)), (6, .ptr 4 0 0), (2, .ptr 0 0 0), (3, .ptr 1 0 0), (4, .ptr 2 0 0)], [(4, ⟨29, 2, true, [[.val (.int .i16 0), .nil]]⟩), (3, ⟨47, 9, false, pls []⟩), (2, ⟨29, 2, true, [[.val (.int .i16 0), .nil]]⟩), (1, ⟨29, 2, true, [[.val (.int .i16 q), .sl 9 (pls ys)]]⟩), (0, ⟨29, 2, true, [[.val (.int .i16 p), .sl 9 (pls xs)]]⟩)], 5⟩) ?_ (fun hS5 => ?_)
          · skip
            refine anyS_cons T0_ok hP hm hN (by rfl) [8] (by rfl) rfl ?_
            refine ⟨⟨_, rfl, rfl, ?_⟩, trivial⟩
            refine ga1 ?_
            exact anyS_weak (st' := ⟨[(55, .val (.int .i16 (p + q))), (59, .own 3), (6, .ptr 4 0 0), (2, .ptr 0 0 0), (3, .ptr 1 0 0), (4, .ptr 2 0 0)], [(4, ⟨29, 2, true, [[.val (.int .i16 0), .nil]]⟩), (3, ⟨47, 9, false, pls xs⟩), (2, ⟨29, 2, true, [[.val (.int .i16 0), .nil]]⟩), (1, ⟨29, 2, true, [[.val (.int .i16 q), .sl 9 (pls ys)]]⟩), (0, ⟨29, 2, true, [[.val (.int .i16 p), .sl 9 (pls xs)]]⟩)], 5⟩) (by first | exact weak_sl (sub_cons rfl (sub_cons rfl (sub_cons rfl (sub_cons rfl (sub_cons rfl (sub_cons rfl (sub_nil))))))) | exact Weak.trans (weak_swap 3 4 (by omega) (by omega) (by omega) (by omega)) (Weak.trans (weak_perm (subhp_cons rfl (subhp_cons rfl (subhp_cons rfl (subhp_cons rfl (subhp_cons rfl (subhp_nil)))))) (subhp_cons rfl (subhp_cons rfl (subhp_cons rfl (subhp_cons rfl (subhp_cons rfl (subhp_nil))))))) (weak_sl (sub_cons rfl (sub_cons rfl (sub_cons rfl (sub_cons rfl (sub_cons rfl (sub_cons rfl (sub_nil)))))))))) hS3
          refine anyS_cut (fuel' := 4) (listed' := #[true, true, true, true, true, true, true, true, false, false, false, false]) (st' := ⟨[(55, .val (.int .i16 (p + q))), (56, .own 3), (58, .sl 9 (pls xs)), (2, .ptr 0 0 0), (3, .ptr 1 0 0), (4, .ptr 2 0 0)], [(3, ⟨47, 9, false, pls []⟩), (2, ⟨29, 2, true, [[.val (.int .i16 0), .nil]]⟩), (1, ⟨29, 2, true, [[.val (.int .i16 q), .sl 9 (pls ys)]]⟩), (0, ⟨29, 2, true, [[.val (.int .i16 p), .sl 9 (pls xs)]]⟩)], 4⟩) ?_ (fun hS6 => ?_)
          · skip
            refine anyS_cons T0_ok hP hm hN (by rfl) [8, 10] (by rfl) rfl ?_
            refine ⟨⟨_, rfl, rfl, ?_⟩, ?_⟩
            · skip
              refine ga1 ?_
              exact anyS_weak (st' := ⟨[(55, .val (.int .i16 (p + q))), (59, .own 3), (2, .ptr 0 0 0), (3, .ptr 1 0 0), (4, .ptr 2 0 0)], [(3, ⟨47, 9, false, pls xs⟩), (2, ⟨29, 2, true, [[.val (.int .i16 0), .nil]]⟩), (1, ⟨29, 2, true, [[.val (.int .i16 q), .sl 9 (pls ys)]]⟩), (0, ⟨29, 2, true, [[.val (.int .i16 p), .sl 9 (pls xs)]]⟩)], 4⟩) (by exact weak_sl (sub_cons rfl (sub_cons rfl (sub_cons rfl (sub_cons rfl (sub_cons rfl (sub_nil))))))) hS4
            refine ⟨⟨_, rfl, rfl, ?_⟩, trivial⟩
            refine g1 ?_
            exact anyS_weak (st' := ⟨[(55, .val (.int .i16 (p + q))), (56, .own 3), (58, .sl 9 (pls xs)), (6, .ptr 4 0 0), (2, .ptr 0 0 0), (3, .ptr 1 0 0), (4, .ptr 2 0 0)], [(4, ⟨29, 2, true, [[.val (.int .i16 0), .nil]]⟩), (3, ⟨47, 9, false, pls []⟩), (2, ⟨29, 2, true, [[.val (.int .i16 0), .nil]]⟩), (1, ⟨29, 2, true, [[.val (.int .i16 q), .sl 9 (pls ys)]]⟩), (0, ⟨29, 2, true, [[.val (.int .i16 p), .sl 9 (pls xs)]]⟩)], 5⟩) (by first | exact weak_sl (sub_cons rfl (sub_cons rfl (sub_cons rfl (sub_cons rfl (sub_cons rfl (sub_cons rfl (sub_cons rfl (sub_nil)))))))) | exact Weak.trans (weak_swap 3 4 (by omega) (by omega) (by omega) (by omega)) (Weak.trans (weak_perm (subhp_cons rfl (subhp_cons rfl (subhp_cons rfl (subhp_cons rfl (subhp_cons rfl (subhp_nil)))))) (subhp_cons rfl (subhp_cons rfl (subhp_cons rfl (subhp_cons rfl (subhp_cons rfl (subhp_nil))))))) (weak_sl (sub_cons rfl (sub_cons rfl (sub_cons rfl (sub_cons rfl (sub_cons rfl (sub_cons rfl (sub_cons rfl (sub_nil))))))))))) hS5
          refine anyS_cut (fuel' := 4) (listed' := #[true, true, true, true, true, true, true, false, false, false, true, false]) (st' := ⟨[(55, .val (.int .i16 (p + q))), (56, .own 3), (57, .ptr 0 0 1), (6, .ptr 4 0 0), (2, .ptr 0 0 0), (3, .ptr 1 0 0), (4, .ptr 2 0 0)], [(4, ⟨29, 2, true, [[.val (.int .i16 0), .nil]]⟩), (3, ⟨47, 9, false, pls []⟩), (2, ⟨29, 2, true, [[.val (.int .i16 0), .nil]]⟩), (1, ⟨29, 2, true, [[.val (.int .i16 q), .sl 9 (pls ys)]]⟩), (0, ⟨29, 2, true, [[.val (.int .i16 p), .sl 9 (pls xs)]]⟩)], 5⟩) ?_ (fun hS7 => ?_)
          · skip
            refine anyS_cons T0_ok hP hm hN (by rfl) [7] (by rfl) rfl ?_
            refine ⟨⟨_, rfl, rfl, ?_⟩, trivial⟩
            refine g1 ?_
            exact anyS_weak (st' := ⟨[(55, .val (.int .i16 (p + q))), (56, .own 3), (58, .sl 9 (pls xs)), (6, .ptr 4 0 0), (2, .ptr 0 0 0), (3, .ptr 1 0 0), (4, .ptr 2 0 0)], [(4, ⟨29, 2, true, [[.val (.int .i16 0), .nil]]⟩), (3, ⟨47, 9, false, pls []⟩), (2, ⟨29, 2, true, [[.val (.int .i16 0), .nil]]⟩), (1, ⟨29, 2, true, [[.val (.int .i16 q), .sl 9 (pls ys)]]⟩), (0, ⟨29, 2, true, [[.val (.int .i16 p), .sl 9 (pls xs)]]⟩)], 5⟩) (by first | exact weak_sl (sub_cons rfl (sub_cons rfl (sub_cons rfl (sub_cons rfl (sub_cons rfl (sub_cons rfl (sub_cons rfl (sub_nil)))))))) | exact Weak.trans (weak_swap 3 4 (by omega) (by omega) (by omega) (by omega)) (Weak.trans (weak_perm (subhp_cons rfl (subhp_cons rfl (subhp_cons rfl (subhp_cons rfl (subhp_cons rfl (subhp_nil)))))) (subhp_cons rfl (subhp_cons rfl (subhp_cons rfl (subhp_cons rfl (subhp_cons rfl (subhp_nil))))))) (weak_sl (sub_cons rfl (sub_cons rfl (sub_cons rfl (sub_cons rfl (sub_cons rfl (sub_cons rfl (sub_cons rfl (sub_nil))))))))))) hS5
          refine anyS_cut (fuel' := 4) (listed' := #[true, true, true, true, true, false, true, true, false, false, true, false]) (st' := ⟨[(55, .val (.int .i16 (p + q))), (58, .sl 9 (pls xs)), (6, .ptr 3 0 0), (2, .ptr 0 0 0), (3, .ptr 1 0 0), (4, .ptr 2 0 0)], [(3, ⟨29, 2, true, [[.val (.int .i16 0), .nil]]⟩), (2, ⟨29, 2, true, [[.val (.int .i16 0), .nil]]⟩), (1, ⟨29, 2, true, [[.val (.int .i16 q), .sl 9 (pls ys)]]⟩), (0, ⟨29, 2, true, [[.val (.int .i16 p), .sl 9 (pls xs)]]⟩)], 4⟩) ?_ (fun hS8 => ?_)
          · skip
            refine anyS_cons T0_ok hP hm hN (by rfl) [5] (by rfl) rfl ?_
            refine ⟨⟨_, rfl, rfl, ?_⟩, trivial⟩
            refine g1 ?_
            exact anyS_weak (st' := ⟨[(55, .val (.int .i16 (p + q))), (56, .own 3), (58, .sl 9 (pls xs)), (6, .ptr 4 0 0), (2, .ptr 0 0 0), (3, .ptr 1 0 0), (4, .ptr 2 0 0)], [(4, ⟨29, 2, true, [[.val (.int .i16 0), .nil]]⟩), (3, ⟨47, 9, false, pls []⟩), (2, ⟨29, 2, true, [[.val (.int .i16 0), .nil]]⟩), (1, ⟨29, 2, true, [[.val (.int .i16 q), .sl 9 (pls ys)]]⟩), (0, ⟨29, 2, true, [[.val (.int .i16 p), .sl 9 (pls xs)]]⟩)], 5⟩) (by first | exact weak_sl (sub_cons rfl (sub_cons rfl (sub_cons rfl (sub_cons rfl (sub_cons rfl (sub_cons rfl (sub_cons rfl (sub_nil)))))))) | exact Weak.trans (weak_swap 3 4 (by omega) (by omega) (by omega) (by omega)) (Weak.trans (weak_perm (subhp_cons rfl (subhp_cons rfl (subhp_cons rfl (subhp_cons rfl (subhp_cons rfl (subhp_nil)))))) (subhp_cons rfl (subhp_cons rfl (subhp_cons rfl (subhp_cons rfl (subhp_cons rfl (subhp_nil))))))) (weak_sl (sub_cons rfl (sub_cons rfl (sub_cons rfl (sub_cons rfl (sub_cons rfl (sub_cons rfl (sub_cons rfl (sub_nil))))))))))) hS5
          refine anyS_cut (fuel' := 4) (listed' := #[true, true, true, false, false, true, true, true, true, false, true, false]) (st' := ⟨[(52, .val (.int .i16 p)), (53, .ptr 1 0 0), (59, .own 3), (6, .ptr 4 0 0), (2, .ptr 0 0 0), (3, .ptr 1 0 0), (4, .ptr 2 0 0)], [(4, ⟨29, 2, true, [[.val (.int .i16 0), .nil]]⟩), (3, ⟨47, 9, false, pls xs⟩), (2, ⟨29, 2, true, [[.val (.int .i16 0), .nil]]⟩), (1, ⟨29, 2, true, [[.val (.int .i16 q), .sl 9 (pls ys)]]⟩), (0, ⟨29, 2, true, [[.val (.int .i16 p), .sl 9 (pls xs)]]⟩)], 5⟩) ?_ (fun hS9 => ?_)
          · skip
            refine anyS_cons T0_ok hP hm hN (by rfl) [3] (by rfl) rfl ?_
            refine ⟨⟨_, rfl, rfl, ?_⟩, trivial⟩
            refine g1 ?_
            refine anyS_floatV T0_ok hP hm hN (by rfl) 4 rfl rfl (by rfl) (by rfl) (by first | trivial | rfl | exact ⟨rfl, rfl⟩ | exact ⟨rfl, rfl, fun _ => rfl, Nat.le_of_ble_eq_true rfl, .inl rfl⟩ | exact ⟨rfl, rfl, fun h => (nomatch h), Nat.le_of_ble_eq_true rfl, .inl rfl⟩ | exact ⟨rfl, rfl, fun _ => rfl, Nat.le_of_ble_eq_true rfl, .inr rfl⟩ | exact ⟨rfl, rfl, fun h => (nomatch h), Nat.le_of_ble_eq_true rfl, .inr rfl⟩ | omega | exact ⟨rfl, by (repeat (first | exact fm_nil | refine fm_cons ⟨rfl, rfl⟩ ?_)), Nat.le_of_ble_eq_true rfl, Nat.le_of_ble_eq_true rfl⟩ | (refine ⟨?_, ?_, ?_, ?_, ?_, ?_, ?_⟩ <;> first | omega | exact Nat.le_of_ble_eq_true rfl) | exact ⟨rfl, by omega, by (try simp only [List.length_map, List.length_set]); omega⟩ | exact ⟨rfl, by omega, by simp only [Int.toNat_natCast]; omega, by omega, Nat.le_of_ble_eq_true rfl, rfl⟩) rfl (by rfl) (by rfl) (by rfl) ?_
            refine g1 ?_
            exact anyS_weak (st' := ⟨[(55, .val (.int .i16 (p + q))), (59, .own 3), (6, .ptr 4 0 0), (2, .ptr 0 0 0), (3, .ptr 1 0 0), (4, .ptr 2 0 0)], [(4, ⟨29, 2, true, [[.val (.int .i16 0), .nil]]⟩), (3, ⟨47, 9, false, pls xs⟩), (2, ⟨29, 2, true, [[.val (.int .i16 0), .nil]]⟩), (1, ⟨29, 2, true, [[.val (.int .i16 q), .sl 9 (pls ys)]]⟩), (0, ⟨29, 2, true, [[.val (.int .i16 p), .sl 9 (pls xs)]]⟩)], 5⟩) (by first | exact weak_sl (sub_cons rfl (sub_cons rfl (sub_cons rfl (sub_cons rfl (sub_cons rfl (sub_cons rfl (sub_nil))))))) | exact Weak.trans (weak_swap 3 4 (by omega) (by omega) (by omega) (by omega)) (Weak.trans (weak_perm (subhp_cons rfl (subhp_cons rfl (subhp_cons rfl (subhp_cons rfl (subhp_cons rfl (subhp_nil)))))) (subhp_cons rfl (subhp_cons rfl (subhp_cons rfl (subhp_cons rfl (subhp_cons rfl (subhp_nil))))))) (weak_sl (sub_cons rfl (sub_cons rfl (sub_cons rfl (sub_cons rfl (sub_cons rfl (sub_cons rfl (sub_nil)))))))))) hS3
          refine anyS_cut (fuel' := 4) (listed' := #[true, false, true, true, false, true, true, true, true, false, true, false]) (st' := ⟨[(51, .ptr 0 0 0), (54, .val (.int .i16 q)), (59, .own 3), (6, .ptr 4 0 0), (2, .ptr 0 0 0), (3, .ptr 1 0 0), (4, .ptr 2 0 0)], [(4, ⟨29, 2, true, [[.val (.int .i16 0), .nil]]⟩), (3, ⟨47, 9, false, pls xs⟩), (2, ⟨29, 2, true, [[.val (.int .i16 0), .nil]]⟩), (1, ⟨29, 2, true, [[.val (.int .i16 q), .sl 9 (pls ys)]]⟩), (0, ⟨29, 2, true, [[.val (.int .i16 p), .sl 9 (pls xs)]]⟩)], 5⟩) ?_ (fun hS10 => ?_)
          · skip
            refine anyS_cons T0_ok hP hm hN (by rfl) [1] (by rfl) rfl ?_
            refine ⟨⟨_, rfl, rfl, ?_⟩, trivial⟩
            refine g1 ?_
            refine anyS_floatV T0_ok hP hm hN (by rfl) 4 rfl rfl (by rfl) (by rfl) (by first | trivial | rfl | exact ⟨rfl, rfl⟩ | exact ⟨rfl, rfl, fun _ => rfl, Nat.le_of_ble_eq_true rfl, .inl rfl⟩ | exact ⟨rfl, rfl, fun h => (nomatch h), Nat.le_of_ble_eq_true rfl, .inl rfl⟩ | exact ⟨rfl, rfl, fun _ => rfl, Nat.le_of_ble_eq_true rfl, .inr rfl⟩ | exact ⟨rfl, rfl, fun h => (nomatch h), Nat.le_of_ble_eq_true rfl, .inr rfl⟩ | omega | exact ⟨rfl, by (repeat (first | exact fm_nil | refine fm_cons ⟨rfl, rfl⟩ ?_)), Nat.le_of_ble_eq_true rfl, Nat.le_of_ble_eq_true rfl⟩ | (refine ⟨?_, ?_, ?_, ?_, ?_, ?_, ?_⟩ <;> first | omega | exact Nat.le_of_ble_eq_true rfl) | exact ⟨rfl, by omega, by (try simp only [List.length_map, List.length_set]); omega⟩ | exact ⟨rfl, by omega, by simp only [Int.toNat_natCast]; omega, by omega, Nat.le_of_ble_eq_true rfl, rfl⟩) rfl (by rfl) (by rfl) (by rfl) ?_
            refine g1 ?_
            exact anyS_weak (st' := ⟨[(55, .val (.int .i16 (p + q))), (59, .own 3), (6, .ptr 4 0 0), (2, .ptr 0 0 0), (3, .ptr 1 0 0), (4, .ptr 2 0 0)], [(4, ⟨29, 2, true, [[.val (.int .i16 0), .nil]]⟩), (3, ⟨47, 9, false, pls xs⟩), (2, ⟨29, 2, true, [[.val (.int .i16 0), .nil]]⟩), (1, ⟨29, 2, true, [[.val (.int .i16 q), .sl 9 (pls ys)]]⟩), (0, ⟨29, 2, true, [[.val (.int .i16 p), .sl 9 (pls xs)]]⟩)], 5⟩) (by first | exact weak_sl (sub_cons rfl (sub_cons rfl (sub_cons rfl (sub_cons rfl (sub_cons rfl (sub_cons rfl (sub_nil))))))) | exact Weak.trans (weak_swap 3 4 (by omega) (by omega) (by omega) (by omega)) (Weak.trans (weak_perm (subhp_cons rfl (subhp_cons rfl (subhp_cons rfl (subhp_cons rfl (subhp_cons rfl (subhp_nil)))))) (subhp_cons rfl (subhp_cons rfl (subhp_cons rfl (subhp_cons rfl (subhp_cons rfl (subhp_nil))))))) (weak_sl (sub_cons rfl (sub_cons rfl (sub_cons rfl (sub_cons rfl (sub_cons rfl (sub_cons rfl (sub_nil)))))))))) hS3
          refine anyS_cut (fuel' := 5) (listed' := #[true, true, true, true, true, true, true, false, false, false, false, false]) (st' := ⟨[(55, .val (.int .i16 (p + q))), (56, .own 3), (57, .ptr 0 0 1), (2, .ptr 0 0 0), (3, .ptr 1 0 0), (4, .ptr 2 0 0)], [(3, ⟨47, 9, false, pls []⟩), (2, ⟨29, 2, true, [[.val (.int .i16 0), .nil]]⟩), (1, ⟨29, 2, true, [[.val (.int .i16 q), .sl 9 (pls ys)]]⟩), (0, ⟨29, 2, true, [[.val (.int .i16 p), .sl 9 (pls xs)]]⟩)], 4⟩) ?_ (fun hS11 => ?_)
          · skip
            refine anyS_cons T0_ok hP hm hN (by rfl) [7, 10] (by rfl) rfl ?_
            refine ⟨⟨_, rfl, rfl, ?_⟩, ?_⟩
            · skip
              refine g1 ?_
              exact anyS_weak (st' := ⟨[(55, .val (.int .i16 (p + q))), (56, .own 3), (58, .sl 9 (pls xs)), (2, .ptr 0 0 0), (3, .ptr 1 0 0), (4, .ptr 2 0 0)], [(3, ⟨47, 9, false, pls []⟩), (2, ⟨29, 2, true, [[.val (.int .i16 0), .nil]]⟩), (1, ⟨29, 2, true, [[.val (.int .i16 q), .sl 9 (pls ys)]]⟩), (0, ⟨29, 2, true, [[.val (.int .i16 p), .sl 9 (pls xs)]]⟩)], 4⟩) (by exact weak_sl (sub_cons rfl (sub_cons rfl (sub_cons rfl (sub_cons rfl (sub_cons rfl (sub_cons rfl (sub_nil)))))))) hS6
            refine ⟨⟨_, rfl, rfl, ?_⟩, trivial⟩
            refine g1 ?_
            exact anyS_weak (st' := ⟨[(55, .val (.int .i16 (p + q))), (56, .own 3), (57, .ptr 0 0 1), (6, .ptr 4 0 0), (2, .ptr 0 0 0), (3, .ptr 1 0 0), (4, .ptr 2 0 0)], [(4, ⟨29, 2, true, [[.val (.int .i16 0), .nil]]⟩), (3, ⟨47, 9, false, pls []⟩), (2, ⟨29, 2, true, [[.val (.int .i16 0), .nil]]⟩), (1, ⟨29, 2, true, [[.val (.int .i16 q), .sl 9 (pls ys)]]⟩), (0, ⟨29, 2, true, [[.val (.int .i16 p), .sl 9 (pls xs)]]⟩)], 5⟩) (by first | exact weak_sl (sub_cons rfl (sub_cons rfl (sub_cons rfl (sub_cons rfl (sub_cons rfl (sub_cons rfl (sub_cons rfl (sub_nil)))))))) | exact Weak.trans (weak_swap 3 4 (by omega) (by omega) (by omega) (by omega)) (Weak.trans (weak_perm (subhp_cons rfl (subhp_cons rfl (subhp_cons rfl (subhp_cons rfl (subhp_cons rfl (subhp_nil)))))) (subhp_cons rfl (subhp_cons rfl (subhp_cons rfl (subhp_cons rfl (subhp_cons rfl (subhp_nil))))))) (weak_sl (sub_cons rfl (sub_cons rfl (sub_cons rfl (sub_cons rfl (sub_cons rfl (sub_cons rfl (sub_cons rfl (sub_nil))))))))))) hS7
          refine anyS_cut (fuel' := 5) (listed' := #[true, true, true, true, true, false, true, true, false, false, false, false]) (st' := ⟨[(55, .val (.int .i16 (p + q))), (58, .sl 9 (pls xs)), (2, .ptr 0 0 0), (3, .ptr 1 0 0), (4, .ptr 2 0 0)], [(2, ⟨29, 2, true, [[.val (.int .i16 0), .nil]]⟩), (1, ⟨29, 2, true, [[.val (.int .i16 q), .sl 9 (pls ys)]]⟩), (0, ⟨29, 2, true, [[.val (.int .i16 p), .sl 9 (pls xs)]]⟩)], 3⟩) ?_ (fun hS12 => ?_)
          · skip
            refine anyS_cons T0_ok hP hm hN (by rfl) [5, 10] (by rfl) rfl ?_
            refine ⟨⟨_, rfl, rfl, ?_⟩, ?_⟩
            · skip
              refine g1 ?_
              exact anyS_weak (st' := ⟨[(55, .val (.int .i16 (p + q))), (56, .own 3), (58, .sl 9 (pls xs)), (2, .ptr 0 0 0), (3, .ptr 1 0 0), (4, .ptr 2 0 0)], [(3, ⟨47, 9, false, pls []⟩), (2, ⟨29, 2, true, [[.val (.int .i16 0), .nil]]⟩), (1, ⟨29, 2, true, [[.val (.int .i16 q), .sl 9 (pls ys)]]⟩), (0, ⟨29, 2, true, [[.val (.int .i16 p), .sl 9 (pls xs)]]⟩)], 4⟩) (by exact weak_sl (sub_cons rfl (sub_cons rfl (sub_cons rfl (sub_cons rfl (sub_cons rfl (sub_cons rfl (sub_nil)))))))) hS6
            refine ⟨⟨_, rfl, rfl, ?_⟩, trivial⟩
            refine g1 ?_
            exact anyS_weak (st' := ⟨[(55, .val (.int .i16 (p + q))), (58, .sl 9 (pls xs)), (6, .ptr 3 0 0), (2, .ptr 0 0 0), (3, .ptr 1 0 0), (4, .ptr 2 0 0)], [(3, ⟨29, 2, true, [[.val (.int .i16 0), .nil]]⟩), (2, ⟨29, 2, true, [[.val (.int .i16 0), .nil]]⟩), (1, ⟨29, 2, true, [[.val (.int .i16 q), .sl 9 (pls ys)]]⟩), (0, ⟨29, 2, true, [[.val (.int .i16 p), .sl 9 (pls xs)]]⟩)], 4⟩) (by exact weak_sl (sub_cons rfl (sub_cons rfl (sub_cons rfl (sub_cons rfl (sub_cons rfl (sub_cons rfl (sub_nil)))))))) hS8
          refine anyS_cut (fuel' := 5) (listed' := #[true, true, true, true, true, false, true, false, false, false, true, false]) (st' := ⟨[(55, .val (.int .i16 (p + q))), (57, .ptr 0 0 1), (6, .ptr 3 0 0), (2, .ptr 0 0 0), (3, .ptr 1 0 0), (4, .ptr 2 0 0)], [(3, ⟨29, 2, true, [[.val (.int .i16 0), .nil]]⟩), (2, ⟨29, 2, true, [[.val (.int .i16 0), .nil]]⟩), (1, ⟨29, 2, true, [[.val (.int .i16 q), .sl 9 (pls ys)]]⟩), (0, ⟨29, 2, true, [[.val (.int .i16 p), .sl 9 (pls xs)]]⟩)], 4⟩) ?_ (fun hS13 => ?_)
          · skip
            refine anyS_cons T0_ok hP hm hN (by rfl) [5, 7] (by rfl) rfl ?_
            refine ⟨⟨_, rfl, rfl, ?_⟩, ?_⟩
            · skip
              refine g1 ?_
              exact anyS_weak (st' := ⟨[(55, .val (.int .i16 (p + q))), (56, .own 3), (57, .ptr 0 0 1), (6, .ptr 4 0 0), (2, .ptr 0 0 0), (3, .ptr 1 0 0), (4, .ptr 2 0 0)], [(4, ⟨29, 2, true, [[.val (.int .i16 0), .nil]]⟩), (3, ⟨47, 9, false, pls []⟩), (2, ⟨29, 2, true, [[.val (.int .i16 0), .nil]]⟩), (1, ⟨29, 2, true, [[.val (.int .i16 q), .sl 9 (pls ys)]]⟩), (0, ⟨29, 2, true, [[.val (.int .i16 p), .sl 9 (pls xs)]]⟩)], 5⟩) (by first | exact weak_sl (sub_cons rfl (sub_cons rfl (sub_cons rfl (sub_cons rfl (sub_cons rfl (sub_cons rfl (sub_cons rfl (sub_nil)))))))) | exact Weak.trans (weak_swap 3 4 (by omega) (by omega) (by omega) (by omega)) (Weak.trans (weak_perm (subhp_cons rfl (subhp_cons rfl (subhp_cons rfl (subhp_cons rfl (subhp_cons rfl (subhp_nil)))))) (subhp_cons rfl (subhp_cons rfl (subhp_cons rfl (subhp_cons rfl (subhp_cons rfl (subhp_nil))))))) (weak_sl (sub_cons rfl (sub_cons rfl (sub_cons rfl (sub_cons rfl (sub_cons rfl (sub_cons rfl (sub_cons rfl (sub_nil))))))))))) hS7
            refine ⟨⟨_, rfl, rfl, ?_⟩, trivial⟩
            refine g1 ?_
            exact anyS_weak (st' := ⟨[(55, .val (.int .i16 (p + q))), (58, .sl 9 (pls xs)), (6, .ptr 3 0 0), (2, .ptr 0 0 0), (3, .ptr 1 0 0), (4, .ptr 2 0 0)], [(3, ⟨29, 2, true, [[.val (.int .i16 0), .nil]]⟩), (2, ⟨29, 2, true, [[.val (.int .i16 0), .nil]]⟩), (1, ⟨29, 2, true, [[.val (.int .i16 q), .sl 9 (pls ys)]]⟩), (0, ⟨29, 2, true, [[.val (.int .i16 p), .sl 9 (pls xs)]]⟩)], 4⟩) (by exact weak_sl (sub_cons rfl (sub_cons rfl (sub_cons rfl (sub_cons rfl (sub_cons rfl (sub_cons rfl (sub_nil)))))))) hS8
          refine anyS_cut (fuel' := 5) (listed' := #[true, true, true, false, false, true, true, true, true, false, false, false]) (st' := ⟨[(52, .val (.int .i16 p)), (53, .ptr 1 0 0), (59, .own 3), (2, .ptr 0 0 0), (3, .ptr 1 0 0), (4, .ptr 2 0 0)], [(3, ⟨47, 9, false, pls xs⟩), (2, ⟨29, 2, true, [[.val (.int .i16 0), .nil]]⟩), (1, ⟨29, 2, true, [[.val (.int .i16 q), .sl 9 (pls ys)]]⟩), (0, ⟨29, 2, true, [[.val (.int .i16 p), .sl 9 (pls xs)]]⟩)], 4⟩) ?_ (fun hS14 => ?_)
          · skip
            refine anyS_cons T0_ok hP hm hN (by rfl) [3, 10] (by rfl) rfl ?_
            refine ⟨⟨_, rfl, rfl, ?_⟩, ?_⟩
            · skip
              refine g1 ?_
              refine anyS_floatV T0_ok hP hm hN (by rfl) 4 rfl rfl (by rfl) (by rfl) (by first | trivial | rfl | exact ⟨rfl, rfl⟩ | exact ⟨rfl, rfl, fun _ => rfl, Nat.le_of_ble_eq_true rfl, .inl rfl⟩ | exact ⟨rfl, rfl, fun h => (nomatch h), Nat.le_of_ble_eq_true rfl, .inl rfl⟩ | exact ⟨rfl, rfl, fun _ => rfl, Nat.le_of_ble_eq_true rfl, .inr rfl⟩ | exact ⟨rfl, rfl, fun h => (nomatch h), Nat.le_of_ble_eq_true rfl, .inr rfl⟩ | omega | exact ⟨rfl, by (repeat (first | exact fm_nil | refine fm_cons ⟨rfl, rfl⟩ ?_)), Nat.le_of_ble_eq_true rfl, Nat.le_of_ble_eq_true rfl⟩ | (refine ⟨?_, ?_, ?_, ?_, ?_, ?_, ?_⟩ <;> first | omega | exact Nat.le_of_ble_eq_true rfl) | exact ⟨rfl, by omega, by (try simp only [List.length_map, List.length_set]); omega⟩ | exact ⟨rfl, by omega, by simp only [Int.toNat_natCast]; omega, by omega, Nat.le_of_ble_eq_true rfl, rfl⟩) rfl (by rfl) (by rfl) (by rfl) ?_
              refine g1 ?_
              exact anyS_weak (st' := ⟨[(55, .val (.int .i16 (p + q))), (59, .own 3), (2, .ptr 0 0 0), (3, .ptr 1 0 0), (4, .ptr 2 0 0)], [(3, ⟨47, 9, false, pls xs⟩), (2, ⟨29, 2, true, [[.val (.int .i16 0), .nil]]⟩), (1, ⟨29, 2, true, [[.val (.int .i16 q), .sl 9 (pls ys)]]⟩), (0, ⟨29, 2, true, [[.val (.int .i16 p), .sl 9 (pls xs)]]⟩)], 4⟩) (by exact weak_sl (sub_cons rfl (sub_cons rfl (sub_cons rfl (sub_cons rfl (sub_cons rfl (sub_nil))))))) hS4
            refine ⟨⟨_, rfl, rfl, ?_⟩, trivial⟩
            refine g1 ?_
            exact anyS_weak (st' := ⟨[(52, .val (.int .i16 p)), (53, .ptr 1 0 0), (59, .own 3), (6, .ptr 4 0 0), (2, .ptr 0 0 0), (3, .ptr 1 0 0), (4, .ptr 2 0 0)], [(4, ⟨29, 2, true, [[.val (.int .i16 0), .nil]]⟩), (3, ⟨47, 9, false, pls xs⟩), (2, ⟨29, 2, true, [[.val (.int .i16 0), .nil]]⟩), (1, ⟨29, 2, true, [[.val (.int .i16 q), .sl 9 (pls ys)]]⟩), (0, ⟨29, 2, true, [[.val (.int .i16 p), .sl 9 (pls xs)]]⟩)], 5⟩) (by first | exact weak_sl (sub_cons rfl (sub_cons rfl (sub_cons rfl (sub_cons rfl (sub_cons rfl (sub_cons rfl (sub_cons rfl (sub_nil)))))))) | exact Weak.trans (weak_swap 3 4 (by omega) (by omega) (by omega) (by omega)) (Weak.trans (weak_perm (subhp_cons rfl (subhp_cons rfl (subhp_cons rfl (subhp_cons rfl (subhp_cons rfl (subhp_nil)))))) (subhp_cons rfl (subhp_cons rfl (subhp_cons rfl (subhp_cons rfl (subhp_cons rfl (subhp_nil))))))) (weak_sl (sub_cons rfl (sub_cons rfl (sub_cons rfl (sub_cons rfl (sub_cons rfl (sub_cons rfl (sub_cons rfl (sub_nil))))))))))) hS9
          refine anyS_cut (fuel' := 5) (listed' := #[true, true, true, false, false, true, true, true, false, false, true, false]) (st' := ⟨[(52, .val (.int .i16 p)), (53, .ptr 1 0 0), (56, .own 3), (58, .sl 9 (pls xs)), (6, .ptr 4 0 0), (2, .ptr 0 0 0), (3, .ptr 1 0 0), (4, .ptr 2 0 0)], [(4, ⟨29, 2, true, [[.val (.int .i16 0), .nil]]⟩), (3, ⟨47, 9, false, pls []⟩), (2, ⟨29, 2, true, [[.val (.int .i16 0), .nil]]⟩), (1, ⟨29, 2, true, [[.val (.int .i16 q), .sl 9 (pls ys)]]⟩), (0, ⟨29, 2, true, [[.val (.int .i16 p), .sl 9 (pls xs)]]⟩)], 5⟩) ?_ (fun hS15 => ?_)
          · skip
            refine anyS_cons T0_ok hP hm hN (by rfl) [3, 8] (by rfl) rfl ?_
            refine ⟨⟨_, rfl, rfl, ?_⟩, ?_⟩
            · skip
              refine g1 ?_
              refine anyS_floatV T0_ok hP hm hN (by rfl) 4 rfl rfl (by rfl) (by rfl) (by first | trivial | rfl | exact ⟨rfl, rfl⟩ | exact ⟨rfl, rfl, fun _ => rfl, Nat.le_of_ble_eq_true rfl, .inl rfl⟩ | exact ⟨rfl, rfl, fun h => (nomatch h), Nat.le_of_ble_eq_true rfl, .inl rfl⟩ | exact ⟨rfl, rfl, fun _ => rfl, Nat.le_of_ble_eq_true rfl, .inr rfl⟩ | exact ⟨rfl, rfl, fun h => (nomatch h), Nat.le_of_ble_eq_true rfl, .inr rfl⟩ | omega | exact ⟨rfl, by (repeat (first | exact fm_nil | refine fm_cons ⟨rfl, rfl⟩ ?_)), Nat.le_of_ble_eq_true rfl, Nat.le_of_ble_eq_true rfl⟩ | (refine ⟨?_, ?_, ?_, ?_, ?_, ?_, ?_⟩ <;> first | omega | exact Nat.le_of_ble_eq_true rfl) | exact ⟨rfl, by omega, by (try simp only [List.length_map, List.length_set]); omega⟩ | exact ⟨rfl, by omega, by simp only [Int.toNat_natCast]; omega, by omega, Nat.le_of_ble_eq_true rfl, rfl⟩) rfl (by rfl) (by rfl) (by rfl) ?_
              refine g1 ?_
              exact anyS_weak (st' := ⟨[(55, .val (.int .i16 (p + q))), (56, .own 3), (58, .sl 9 (pls xs)), (6, .ptr 4 0 0), (2, .ptr 0 0 0), (3, .ptr 1 0 0), (4, .ptr 2 0 0)], [(4, ⟨29, 2, true, [[.val (.int .i16 0), .nil]]⟩), (3, ⟨47, 9, false, pls []⟩), (2, ⟨29, 2, true, [[.val (.int .i16 0), .nil]]⟩), (1, ⟨29, 2, true, [[.val (.int .i16 q), .sl 9 (pls ys)]]⟩), (0, ⟨29, 2, true, [[.val (.int .i16 p), .sl 9 (pls xs)]]⟩)], 5⟩) (by first | exact weak_sl (sub_cons rfl (sub_cons rfl (sub_cons rfl (sub_cons rfl (sub_cons rfl (sub_cons rfl (sub_cons rfl (sub_nil)))))))) | exact Weak.trans (weak_swap 3 4 (by omega) (by omega) (by omega) (by omega)) (Weak.trans (weak_perm (subhp_cons rfl (subhp_cons rfl (subhp_cons rfl (subhp_cons rfl (subhp_cons rfl (subhp_nil)))))) (subhp_cons rfl (subhp_cons rfl (subhp_cons rfl (subhp_cons rfl (subhp_cons rfl (subhp_nil))))))) (weak_sl (sub_cons rfl (sub_cons rfl (sub_cons rfl (sub_cons rfl (sub_cons rfl (sub_cons rfl (sub_cons rfl (sub_nil))))))))))) hS5
            refine ⟨⟨_, rfl, rfl, ?_⟩, trivial⟩
            refine ga1 ?_
            exact anyS_weak (st' := ⟨[(52, .val (.int .i16 p)), (53, .ptr 1 0 0), (59, .own 3), (6, .ptr 4 0 0), (2, .ptr 0 0 0), (3, .ptr 1 0 0), (4, .ptr 2 0 0)], [(4, ⟨29, 2, true, [[.val (.int .i16 0), .nil]]⟩), (3, ⟨47, 9, false, pls xs⟩), (2, ⟨29, 2, true, [[.val (.int .i16 0), .nil]]⟩), (1, ⟨29, 2, true, [[.val (.int .i16 q), .sl 9 (pls ys)]]⟩), (0, ⟨29, 2, true, [[.val (.int .i16 p), .sl 9 (pls xs)]]⟩)], 5⟩) (by first | exact weak_sl (sub_cons rfl (sub_cons rfl (sub_cons rfl (sub_cons rfl (sub_cons rfl (sub_cons rfl (sub_cons rfl (sub_nil)))))))) | exact Weak.trans (weak_swap 3 4 (by omega) (by omega) (by omega) (by omega)) (Weak.trans (weak_perm (subhp_cons rfl (subhp_cons rfl (subhp_cons rfl (subhp_cons rfl (subhp_cons rfl (subhp_nil)))))) (subhp_cons rfl (subhp_cons rfl (subhp_cons rfl (subhp_cons rfl (subhp_cons rfl (subhp_nil))))))) (weak_sl (sub_cons rfl (sub_cons rfl (sub_cons rfl (sub_cons rfl (sub_cons rfl (sub_cons rfl (sub_cons rfl (sub_nil))))))))))) hS9
          refine anyS_cut (fuel' := 5) (listed' := #[true, false, true, true, false, true, true, true, true, false, false, false]) (st' := ⟨[(51, .ptr 0 0 0), (54, .val (.int .i16 q)), (59, .own 3), (2, .ptr 0 0 0), (3, .ptr 1 0 0), (4, .ptr 2 0 0)], [(3, ⟨47, 9, false, pls xs⟩), (2, ⟨29, 2, true, [[.val (.int .i16 0), .nil]]⟩), (1, ⟨29, 2, true, [[.val (.int .i16 q), .sl 9 (pls ys)]]⟩), (0, ⟨29, 2, true, [[.val (.int .i16 p), .sl 9 (pls xs)]]⟩)], 4⟩) ?_ (fun hS16 => ?_)
          · skip
            refine anyS_cons T0_ok hP hm hN (by rfl) [1, 10] (by rfl) rfl ?_
            refine ⟨⟨_, rfl, rfl, ?_⟩, ?_⟩
            · skip
              refine g1 ?_
              refine anyS_floatV T0_ok hP hm hN (by rfl) 4 rfl rfl (by rfl) (by rfl) (by first | trivial | rfl | exact ⟨rfl, rfl⟩ | exact ⟨rfl, rfl, fun _ => rfl, Nat.le_of_ble_eq_true rfl, .inl rfl⟩ | exact ⟨rfl, rfl, fun h => (nomatch h), Nat.le_of_ble_eq_true rfl, .inl rfl⟩ | exact ⟨rfl, rfl, fun _ => rfl, Nat.le_of_ble_eq_true rfl, .inr rfl⟩ | exact ⟨rfl, rfl, fun h => (nomatch h), Nat.le_of_ble_eq_true rfl, .inr rfl⟩ | omega | exact ⟨rfl, by (repeat (first | exact fm_nil | refine fm_cons ⟨rfl, rfl⟩ ?_)), Nat.le_of_ble_eq_true rfl, Nat.le_of_ble_eq_true rfl⟩ | (refine ⟨?_, ?_, ?_, ?_, ?_, ?_, ?_⟩ <;> first | omega | exact Nat.le_of_ble_eq_true rfl) | exact ⟨rfl, by omega, by (try simp only [List.length_map, List.length_set]); omega⟩ | exact ⟨rfl, by omega, by simp only [Int.toNat_natCast]; omega, by omega, Nat.le_of_ble_eq_true rfl, rfl⟩) rfl (by rfl) (by rfl) (by rfl) ?_
              refine g1 ?_
              exact anyS_weak (st' := ⟨[(55, .val (.int .i16 (p + q))), (59, .own 3), (2, .ptr 0 0 0), (3, .ptr 1 0 0), (4, .ptr 2 0 0)], [(3, ⟨47, 9, false, pls xs⟩), (2, ⟨29, 2, true, [[.val (.int .i16 0), .nil]]⟩), (1, ⟨29, 2, true, [[.val (.int .i16 q), .sl 9 (pls ys)]]⟩), (0, ⟨29, 2, true, [[.val (.int .i16 p), .sl 9 (pls xs)]]⟩)], 4⟩) (by exact weak_sl (sub_cons rfl (sub_cons rfl (sub_cons rfl (sub_cons rfl (sub_cons rfl (sub_nil))))))) hS4
            refine ⟨⟨_, rfl, rfl, ?_⟩, trivial⟩
            refine g1 ?_
            exact anyS_weak (st' := ⟨[(51, .ptr 0 0 0), (54, .val (.int .i16 q)), (59, .own 3), (6, .ptr 4 0 0), (2, .ptr 0 0 0), (3, .ptr 1 0 0), (4, .ptr 2 0 0)], [(4, ⟨29, 2, true, [[.val (.int .i16 0), .nil]]⟩), (3, ⟨47, 9, false, pls xs⟩), (2, ⟨29, 2, true, [[.val (.int .i16 0), .nil]]⟩), (1, ⟨29, 2, true, [[.val (.int .i16 q), .sl 9 (pls ys)]]⟩), (0, ⟨29, 2, true, [[.val (.int .i16 p), .sl 9 (pls xs)]]⟩)], 5⟩) (by first | exact weak_sl (sub_cons rfl (sub_cons rfl (sub_cons rfl (sub_cons rfl (sub_cons rfl (sub_cons rfl (sub_cons rfl (sub_nil)))))))) | exact Weak.trans (weak_swap 3 4 (by omega) (by omega) (by omega) (by omega)) (Weak.trans (weak_perm (subhp_cons rfl (subhp_cons rfl (subhp_cons rfl (subhp_cons rfl (subhp_cons rfl (subhp_nil)))))) (subhp_cons rfl (subhp_cons rfl (subhp_cons rfl (subhp_cons rfl (subhp_cons rfl (subhp_nil))))))) (weak_sl (sub_cons rfl (sub_cons rfl (sub_cons rfl (sub_cons rfl (sub_cons rfl (sub_cons rfl (sub_cons rfl (sub_nil))))))))))) hS10
          refine anyS_cut (fuel' := 5) (listed' := #[true, false, true, true, false, true, true, true, false, false, true, false]) (st' := ⟨[(51, .ptr 0 0 0), (54, .val (.int .i16 q)), (56, .own 3), (58, .sl 9 (pls xs)), (6, .ptr 4 0 0), (2, .ptr 0 0 0), (3, .ptr 1 0 0), (4, .ptr 2 0 0)], [(4, ⟨29, 2, true, [[.val (.int .i16 0), .nil]]⟩), (3, ⟨47, 9, false, pls []⟩), (2, ⟨29, 2, true, [[.val (.int .i16 0), .nil]]⟩), (1, ⟨29, 2, true, [[.val (.int .i16 q), .sl 9 (pls ys)]]⟩), (0, ⟨29, 2, true, [[.val (.int .i16 p), .sl 9 (pls xs)]]⟩)], 5⟩) ?_ (fun hS17 => ?_)
          · skip
            refine anyS_cons T0_ok hP hm hN (by rfl) [1, 8] (by rfl) rfl ?_
            refine ⟨⟨_, rfl, rfl, ?_⟩, ?_⟩
            · skip
              refine g1 ?_
              refine anyS_floatV T0_ok hP hm hN (by rfl) 4 rfl rfl (by rfl) (by rfl) (by first | trivial | rfl | exact ⟨rfl, rfl⟩ | exact ⟨rfl, rfl, fun _ => rfl, Nat.le_of_ble_eq_true rfl, .inl rfl⟩ | exact ⟨rfl, rfl, fun h => (nomatch h), Nat.le_of_ble_eq_true rfl, .inl rfl⟩ | exact ⟨rfl, rfl, fun _ => rfl, Nat.le_of_ble_eq_true rfl, .inr rfl⟩ | exact ⟨rfl, rfl, fun h => (nomatch h), Nat.le_of_ble_eq_true rfl, .inr rfl⟩ | omega | exact ⟨rfl, by (repeat (first | exact fm_nil | refine fm_cons ⟨rfl, rfl⟩ ?_)), Nat.le_of_ble_eq_true rfl, Nat.le_of_ble_eq_true rfl⟩ | (refine ⟨?_, ?_, ?_, ?_, ?_, ?_, ?_⟩ <;> first | omega | exact Nat.le_of_ble_eq_true rfl) | exact ⟨rfl, by omega, by (try simp only [List.length_map, List.length_set]); omega⟩ | exact ⟨rfl, by omega, by simp only [Int.toNat_natCast]; omega, by omega, Nat.le_of_ble_eq_true rfl, rfl⟩) rfl (by rfl) (by rfl) (by rfl) ?_
              refine g1 ?_
              exact anyS_weak (st' := ⟨[(55, .val (.int .i16 (p + q))), (56, .own 3), (58, .sl 9 (pls xs)), (6, .ptr 4 0 0), (2, .ptr 0 0 0), (3, .ptr 1 0 0), (4, .ptr 2 0 0)], [(4, ⟨29, 2, true, [[.val (.int .i16 0), .nil]]⟩), (3, ⟨47, 9, false, pls []⟩), (2, ⟨29, 2, true, [[.val (.int .i16 0), .nil]]⟩), (1, ⟨29, 2, true, [[.val (.int .i16 q), .sl 9 (pls ys)]]⟩), (0, ⟨29, 2, true, [[.val (.int .i16 p), .sl 9 (pls xs)]]⟩)], 5⟩) (by first | exact weak_sl (sub_cons rfl (sub_cons rfl (sub_cons rfl (sub_cons rfl (sub_cons rfl (sub_cons rfl (sub_cons rfl (sub_nil)))))))) | exact Weak.trans (weak_swap 3 4 (by omega) (by omega) (by omega) (by omega)) (Weak.trans (weak_perm (subhp_cons rfl (subhp_cons rfl (subhp_cons rfl (subhp_cons rfl (subhp_cons rfl (subhp_nil)))))) (subhp_cons rfl (subhp_cons rfl (subhp_cons rfl (subhp_cons rfl (subhp_cons rfl (subhp_nil))))))) (weak_sl (sub_cons rfl (sub_cons rfl (sub_cons rfl (sub_cons rfl (sub_cons rfl (sub_cons rfl (sub_cons rfl (sub_nil))))))))))) hS5
            refine ⟨⟨_, rfl, rfl, ?_⟩, trivial⟩
            refine ga1 ?_
            exact anyS_weak (st' := ⟨[(51, .ptr 0 0 0), (54, .val (.int .i16 q)), (59, .own 3), (6, .ptr 4 0 0), (2, .ptr 0 0 0), (3, .ptr 1 0 0), (4, .ptr 2 0 0)], [(4, ⟨29, 2, true, [[.val (.int .i16 0), .nil]]⟩), (3, ⟨47, 9, false, pls xs⟩), (2, ⟨29, 2, true, [[.val (.int .i16 0), .nil]]⟩), (1, ⟨29, 2, true, [[.val (.int .i16 q), .sl 9 (pls ys)]]⟩), (0, ⟨29, 2, true, [[.val (.int .i16 p), .sl 9 (pls xs)]]⟩)], 5⟩) (by first | exact weak_sl (sub_cons rfl (sub_cons rfl (sub_cons rfl (sub_cons rfl (sub_cons rfl (sub_cons rfl (sub_cons rfl (sub_nil)))))))) | exact Weak.trans (weak_swap 3 4 (by omega) (by omega) (by omega) (by omega)) (Weak.trans (weak_perm (subhp_cons rfl (subhp_cons rfl (subhp_cons rfl (subhp_cons rfl (subhp_cons rfl (subhp_nil)))))) (subhp_cons rfl (subhp_cons rfl (subhp_cons rfl (subhp_cons rfl (subhp_cons rfl (subhp_nil))))))) (weak_sl (sub_cons rfl (sub_cons rfl (sub_cons rfl (sub_cons rfl (sub_cons rfl (sub_cons rfl (sub_cons rfl (sub_nil))))))))))) hS10
          refine anyS_cut (fuel' := 5) (listed' := #[true, false, true, false, false, true, true, true, true, false, true, false]) (st' := ⟨[(51, .ptr 0 0 0), (53, .ptr 1 0 0), (59, .own 3), (6, .ptr 4 0 0), (2, .ptr 0 0 0), (3, .ptr 1 0 0), (4, .ptr 2 0 0)], [(4, ⟨29, 2, true, [[.val (.int .i16 0), .nil]]⟩), (3, ⟨47, 9, false, pls xs⟩), (2, ⟨29, 2, true, [[.val (.int .i16 0), .nil]]⟩), (1, ⟨29, 2, true, [[.val (.int .i16 q), .sl 9 (pls ys)]]⟩), (0, ⟨29, 2, true, [[.val (.int .i16 p), .sl 9 (pls xs)]]⟩)], 5⟩) ?_ (fun hS18 => ?_)
          · skip
            refine anyS_cons T0_ok hP hm hN (by rfl) [1, 3] (by rfl) rfl ?_
            refine ⟨⟨_, rfl, rfl, ?_⟩, ?_⟩
            · skip
              refine g1 ?_
              exact anyS_weak (st' := ⟨[(52, .val (.int .i16 p)), (53, .ptr 1 0 0), (59, .own 3), (6, .ptr 4 0 0), (2, .ptr 0 0 0), (3, .ptr 1 0 0), (4, .ptr 2 0 0)], [(4, ⟨29, 2, true, [[.val (.int .i16 0), .nil]]⟩), (3, ⟨47, 9, false, pls xs⟩), (2, ⟨29, 2, true, [[.val (.int .i16 0), .nil]]⟩), (1, ⟨29, 2, true, [[.val (.int .i16 q), .sl 9 (pls ys)]]⟩), (0, ⟨29, 2, true, [[.val (.int .i16 p), .sl 9 (pls xs)]]⟩)], 5⟩) (by first | exact weak_sl (sub_cons rfl (sub_cons rfl (sub_cons rfl (sub_cons rfl (sub_cons rfl (sub_cons rfl (sub_cons rfl (sub_nil)))))))) | exact Weak.trans (weak_swap 3 4 (by omega) (by omega) (by omega) (by omega)) (Weak.trans (weak_perm (subhp_cons rfl (subhp_cons rfl (subhp_cons rfl (subhp_cons rfl (subhp_cons rfl (subhp_nil)))))) (subhp_cons rfl (subhp_cons rfl (subhp_cons rfl (subhp_cons rfl (subhp_cons rfl (subhp_nil))))))) (weak_sl (sub_cons rfl (sub_cons rfl (sub_cons rfl (sub_cons rfl (sub_cons rfl (sub_cons rfl (sub_cons rfl (sub_nil))))))))))) hS9
            refine ⟨⟨_, rfl, rfl, ?_⟩, trivial⟩
            refine g1 ?_
            exact anyS_weak (st' := ⟨[(51, .ptr 0 0 0), (54, .val (.int .i16 q)), (59, .own 3), (6, .ptr 4 0 0), (2, .ptr 0 0 0), (3, .ptr 1 0 0), (4, .ptr 2 0 0)], [(4, ⟨29, 2, true, [[.val (.int .i16 0), .nil]]⟩), (3, ⟨47, 9, false, pls xs⟩), (2, ⟨29, 2, true, [[.val (.int .i16 0), .nil]]⟩), (1, ⟨29, 2, true, [[.val (.int .i16 q), .sl 9 (pls ys)]]⟩), (0, ⟨29, 2, true, [[.val (.int .i16 p), .sl 9 (pls xs)]]⟩)], 5⟩) (by first | exact weak_sl (sub_cons rfl (sub_cons rfl (sub_cons rfl (sub_cons rfl (sub_cons rfl (sub_cons rfl (sub_cons rfl (sub_nil)))))))) | exact Weak.trans (weak_swap 3 4 (by omega) (by omega) (by omega) (by omega)) (Weak.trans (weak_perm (subhp_cons rfl (subhp_cons rfl (subhp_cons rfl (subhp_cons rfl (subhp_cons rfl (subhp_nil)))))) (subhp_cons rfl (subhp_cons rfl (subhp_cons rfl (subhp_cons rfl (subhp_cons rfl (subhp_nil))))))) (weak_sl (sub_cons rfl (sub_cons rfl (sub_cons rfl (sub_cons rfl (sub_cons rfl (sub_cons rfl (sub_cons rfl (sub_nil))))))))))) hS10
          refine anyS_cut (fuel' := 6) (listed' := #[true, true, true, true, true, false, true, false, false, false, false, false]) (st' := ⟨[(55, .val (.int .i16 (p + q))), (57, .ptr 0 0 1), (2, .ptr 0 0 0), (3, .ptr 1 0 0), (4, .ptr 2 0 0)], [(2, ⟨29, 2, true, [[.val (.int .i16 0), .nil]]⟩), (1, ⟨29, 2, true, [[.val (.int .i16 q), .sl 9 (pls ys)]]⟩), (0, ⟨29, 2, true, [[.val (.int .i16 p), .sl 9 (pls xs)]]⟩)], 3⟩) ?_ (fun hS19 => ?_)
          · skip
            refine anyS_cons T0_ok hP hm hN (by rfl) [5, 7, 10] (by rfl) rfl ?_
            refine ⟨⟨_, rfl, rfl, ?_⟩, ?_⟩
            · skip
              refine g1 ?_
              exact anyS_weak (st' := ⟨[(55, .val (.int .i16 (p + q))), (56, .own 3), (57, .ptr 0 0 1), (2, .ptr 0 0 0), (3, .ptr 1 0 0), (4, .ptr 2 0 0)], [(3, ⟨47, 9, false, pls []⟩), (2, ⟨29, 2, true, [[.val (.int .i16 0), .nil]]⟩), (1, ⟨29, 2, true, [[.val (.int .i16 q), .sl 9 (pls ys)]]⟩), (0, ⟨29, 2, true, [[.val (.int .i16 p), .sl 9 (pls xs)]]⟩)], 4⟩) (by exact weak_sl (sub_cons rfl (sub_cons rfl (sub_cons rfl (sub_cons rfl (sub_cons rfl (sub_cons rfl (sub_nil)))))))) hS11
            refine ⟨⟨_, rfl, rfl, ?_⟩, ?_⟩
            · skip
              refine g1 ?_
              exact anyS_weak (st' := ⟨[(55, .val (.int .i16 (p + q))), (58, .sl 9 (pls xs)), (2, .ptr 0 0 0), (3, .ptr 1 0 0), (4, .ptr 2 0 0)], [(2, ⟨29, 2, true, [[.val (.int .i16 0), .nil]]⟩), (1, ⟨29, 2, true, [[.val (.int .i16 q), .sl 9 (pls ys)]]⟩), (0, ⟨29, 2, true, [[.val (.int .i16 p), .sl 9 (pls xs)]]⟩)], 3⟩) (by exact weak_sl (sub_cons rfl (sub_cons rfl (sub_cons rfl (sub_cons rfl (sub_cons rfl (sub_nil))))))) hS12
            refine ⟨⟨_, rfl, rfl, ?_⟩, trivial⟩
            refine g1 ?_
            exact anyS_weak (st' := ⟨[(55, .val (.int .i16 (p + q))), (57, .ptr 0 0 1), (6, .ptr 3 0 0), (2, .ptr 0 0 0), (3, .ptr 1 0 0), (4, .ptr 2 0 0)], [(3, ⟨29, 2, true, [[.val (.int .i16 0), .nil]]⟩), (2, ⟨29, 2, true, [[.val (.int .i16 0), .nil]]⟩), (1, ⟨29, 2, true, [[.val (.int .i16 q), .sl 9 (pls ys)]]⟩), (0, ⟨29, 2, true, [[.val (.int .i16 p), .sl 9 (pls xs)]]⟩)], 4⟩) (by exact weak_sl (sub_cons rfl (sub_cons rfl (sub_cons rfl (sub_cons rfl (sub_cons rfl (sub_cons rfl (sub_nil)))))))) hS13
          refine anyS_cut (fuel' := 6) (listed' := #[true, true, true, false, false, true, true, true, false, false, false, false]) (st' := ⟨[(52, .val (.int .i16 p)), (53, .ptr 1 0 0), (56, .own 3), (58, .sl 9 (pls xs)), (2, .ptr 0 0 0), (3, .ptr 1 0 0), (4, .ptr 2 0 0)], [(3, ⟨47, 9, false, pls []⟩), (2, ⟨29, 2, true, [[.val (.int .i16 0), .nil]]⟩), (1, ⟨29, 2, true, [[.val (.int .i16 q), .sl 9 (pls ys)]]⟩), (0, ⟨29, 2, true, [[.val (.int .i16 p), .sl 9 (pls xs)]]⟩)], 4⟩) ?_ (fun hS20 => ?_)
          · skip
            refine anyS_cons T0_ok hP hm hN (by rfl) [3, 8, 10] (by rfl) rfl ?_
            refine ⟨⟨_, rfl, rfl, ?_⟩, ?_⟩
            · skip
              refine g1 ?_
              refine anyS_floatV T0_ok hP hm hN (by rfl) 4 rfl rfl (by rfl) (by rfl) (by first | trivial | rfl | exact ⟨rfl, rfl⟩ | exact ⟨rfl, rfl, fun _ => rfl, Nat.le_of_ble_eq_true rfl, .inl rfl⟩ | exact ⟨rfl, rfl, fun h => (nomatch h), Nat.le_of_ble_eq_true rfl, .inl rfl⟩ | exact ⟨rfl, rfl, fun _ => rfl, Nat.le_of_ble_eq_true rfl, .inr rfl⟩ | exact ⟨rfl, rfl, fun h => (nomatch h), Nat.le_of_ble_eq_true rfl, .inr rfl⟩ | omega | exact ⟨rfl, by (repeat (first | exact fm_nil | refine fm_cons ⟨rfl, rfl⟩ ?_)), Nat.le_of_ble_eq_true rfl, Nat.le_of_ble_eq_true rfl⟩ | (refine ⟨?_, ?_, ?_, ?_, ?_, ?_, ?_⟩ <;> first | omega | exact Nat.le_of_ble_eq_true rfl) | exact ⟨rfl, by omega, by (try simp only [List.length_map, List.length_set]); omega⟩ | exact ⟨rfl, by omega, by simp only [Int.toNat_natCast]; omega, by omega, Nat.le_of_ble_eq_true rfl, rfl⟩) rfl (by rfl) (by rfl) (by rfl) ?_
              refine g1 ?_
              exact anyS_weak (st' := ⟨[(55, .val (.int .i16 (p + q))), (56, .own 3), (58, .sl 9 (pls xs)), (2, .ptr 0 0 0), (3, .ptr 1 0 0), (4, .ptr 2 0 0)], [(3, ⟨47, 9, false, pls []⟩), (2, ⟨29, 2, true, [[.val (.int .i16 0), .nil]]⟩), (1, ⟨29, 2, true, [[.val (.int .i16 q), .sl 9 (pls ys)]]⟩), (0, ⟨29, 2, true, [[.val (.int .i16 p), .sl 9 (pls xs)]]⟩)], 4⟩) (by exact weak_sl (sub_cons rfl (sub_cons rfl (sub_cons rfl (sub_cons rfl (sub_cons rfl (sub_cons rfl (sub_nil)))))))) hS6
            refine ⟨⟨_, rfl, rfl, ?_⟩, ?_⟩
            · skip
              refine ga1 ?_
              exact anyS_weak (st' := ⟨[(52, .val (.int .i16 p)), (53, .ptr 1 0 0), (59, .own 3), (2, .ptr 0 0 0), (3, .ptr 1 0 0), (4, .ptr 2 0 0)], [(3, ⟨47, 9, false, pls xs⟩), (2, ⟨29, 2, true, [[.val (.int .i16 0), .nil]]⟩), (1, ⟨29, 2, true, [[.val (.int .i16 q), .sl 9 (pls ys)]]⟩), (0, ⟨29, 2, true, [[.val (.int .i16 p), .sl 9 (pls xs)]]⟩)], 4⟩) (by exact weak_sl (sub_cons rfl (sub_cons rfl (sub_cons rfl (sub_cons rfl (sub_cons rfl (sub_cons rfl (sub_nil)))))))) hS14
            refine ⟨⟨_, rfl, rfl, ?_⟩, trivial⟩
            refine g1 ?_
            exact anyS_weak (st' := ⟨[(52, .val (.int .i16 p)), (53, .ptr 1 0 0), (56, .own 3), (58, .sl 9 (pls xs)), (6, .ptr 4 0 0), (2, .ptr 0 0 0), (3, .ptr 1 0 0), (4, .ptr 2 0 0)], [(4, ⟨29, 2, true, [[.val (.int .i16 0), .nil]]⟩), (3, ⟨47, 9, false, pls []⟩), (2, ⟨29, 2, true, [[.val (.int .i16 0), .nil]]⟩), (1, ⟨29, 2, true, [[.val (.int .i16 q), .sl 9 (pls ys)]]⟩), (0, ⟨29, 2, true, [[.val (.int .i16 p), .sl 9 (pls xs)]]⟩)], 5⟩) (by first | exact weak_sl (sub_cons rfl (sub_cons rfl (sub_cons rfl (sub_cons rfl (sub_cons rfl (sub_cons rfl (sub_cons rfl (sub_cons rfl (sub_nil))))))))) | exact Weak.trans (weak_swap 3 4 (by omega) (by omega) (by omega) (by omega)) (Weak.trans (weak_perm (subhp_cons rfl (subhp_cons rfl (subhp_cons rfl (subhp_cons rfl (subhp_cons rfl (subhp_nil)))))) (subhp_cons rfl (subhp_cons rfl (subhp_cons rfl (subhp_cons rfl (subhp_cons rfl (subhp_nil))))))) (weak_sl (sub_cons rfl (sub_cons rfl (sub_cons rfl (sub_cons rfl (sub_cons rfl (sub_cons rfl (sub_cons rfl (sub_cons rfl (sub_nil)))))))))))) hS15
          refine anyS_cut (fuel' := 6) (listed' := #[true, true, true, false, false, true, true, false, false, false, true, false]) (st' := ⟨[(52, .val (.int .i16 p)), (53, .ptr 1 0 0), (56, .own 3), (57, .ptr 0 0 1), (6, .ptr 4 0 0), (2, .ptr 0 0 0), (3, .ptr 1 0 0), (4, .ptr 2 0 0)], [(4, ⟨29, 2, true, [[.val (.int .i16 0), .nil]]⟩), (3, ⟨47, 9, false, pls []⟩), (2, ⟨29, 2, true, [[.val (.int .i16 0), .nil]]⟩), (1, ⟨29, 2, true, [[.val (.int .i16 q), .sl 9 (pls ys)]]⟩), (0, ⟨29, 2, true, [[.val (.int .i16 p), .sl 9 (pls xs)]]⟩)], 5⟩) ?_ (fun hS21 => ?_)
          · skip
            refine anyS_cons T0_ok hP hm hN (by rfl) [3, 7] (by rfl) rfl ?_
            refine ⟨⟨_, rfl, rfl, ?_⟩, ?_⟩
            · skip
              refine g1 ?_
              refine anyS_floatV T0_ok hP hm hN (by rfl) 4 rfl rfl (by rfl) (by rfl) (by first | trivial | rfl | exact ⟨rfl, rfl⟩ | exact ⟨rfl, rfl, fun _ => rfl, Nat.le_of_ble_eq_true rfl, .inl rfl⟩ | exact ⟨rfl, rfl, fun h => (nomatch h), Nat.le_of_ble_eq_true rfl, .inl rfl⟩ | exact ⟨rfl, rfl, fun _ => rfl, Nat.le_of_ble_eq_true rfl, .inr rfl⟩ | exact ⟨rfl, rfl, fun h => (nomatch h), Nat.le_of_ble_eq_true rfl, .inr rfl⟩ | omega | exact ⟨rfl, by (repeat (first | exact fm_nil | refine fm_cons ⟨rfl, rfl⟩ ?_)), Nat.le_of_ble_eq_true rfl, Nat.le_of_ble_eq_true rfl⟩ | (refine ⟨?_, ?_, ?_, ?_, ?_, ?_, ?_⟩ <;> first | omega | exact Nat.le_of_ble_eq_true rfl) | exact ⟨rfl, by omega, by (try simp only [List.length_map, List.length_set]); omega⟩ | exact ⟨rfl, by omega, by simp only [Int.toNat_natCast]; omega, by omega, Nat.le_of_ble_eq_true rfl, rfl⟩) rfl (by rfl) (by rfl) (by rfl) ?_
              refine g1 ?_
              exact anyS_weak (st' := ⟨[(55, .val (.int .i16 (p + q))), (56, .own 3), (57, .ptr 0 0 1), (6, .ptr 4 0 0), (2, .ptr 0 0 0), (3, .ptr 1 0 0), (4, .ptr 2 0 0)], [(4, ⟨29, 2, true, [[.val (.int .i16 0), .nil]]⟩), (3, ⟨47, 9, false, pls []⟩), (2, ⟨29, 2, true, [[.val (.int .i16 0), .nil]]⟩), (1, ⟨29, 2, true, [[.val (.int .i16 q), .sl 9 (pls ys)]]⟩), (0, ⟨29, 2, true, [[.val (.int .i16 p), .sl 9 (pls xs)]]⟩)], 5⟩) (by first | exact weak_sl (sub_cons rfl (sub_cons rfl (sub_cons rfl (sub_cons rfl (sub_cons rfl (sub_cons rfl (sub_cons rfl (sub_nil)))))))) | exact Weak.trans (weak_swap 3 4 (by omega) (by omega) (by omega) (by omega)) (Weak.trans (weak_perm (subhp_cons rfl (subhp_cons rfl (subhp_cons rfl (subhp_cons rfl (subhp_cons rfl (subhp_nil)))))) (subhp_cons rfl (subhp_cons rfl (subhp_cons rfl (subhp_cons rfl (subhp_cons rfl (subhp_nil))))))) (weak_sl (sub_cons rfl (sub_cons rfl (sub_cons rfl (sub_cons rfl (sub_cons rfl (sub_cons rfl (sub_cons rfl (sub_nil))))))))))) hS7
            refine ⟨⟨_, rfl, rfl, ?_⟩, trivial⟩
            refine g1 ?_
            exact anyS_weak (st' := ⟨[(52, .val (.int .i16 p)), (53, .ptr 1 0 0), (56, .own 3), (58, .sl 9 (pls xs)), (6, .ptr 4 0 0), (2, .ptr 0 0 0), (3, .ptr 1 0 0), (4, .ptr 2 0 0)], [(4, ⟨29, 2, true, [[.val (.int .i16 0), .nil]]⟩), (3, ⟨47, 9, false, pls []⟩), (2, ⟨29, 2, true, [[.val (.int .i16 0), .nil]]⟩), (1, ⟨29, 2, true, [[.val (.int .i16 q), .sl 9 (pls ys)]]⟩), (0, ⟨29, 2, true, [[.val (.int .i16 p), .sl 9 (pls xs)]]⟩)], 5⟩) (by first | exact weak_sl (sub_cons rfl (sub_cons rfl (sub_cons rfl (sub_cons rfl (sub_cons rfl (sub_cons rfl (sub_cons rfl (sub_cons rfl (sub_nil))))))))) | exact Weak.trans (weak_swap 3 4 (by omega) (by omega) (by omega) (by omega)) (Weak.trans (weak_perm (subhp_cons rfl (subhp_cons rfl (subhp_cons rfl (subhp_cons rfl (subhp_cons rfl (subhp_nil)))))) (subhp_cons rfl (subhp_cons rfl (subhp_cons rfl (subhp_cons rfl (subhp_cons rfl (subhp_nil))))))) (weak_sl (sub_cons rfl (sub_cons rfl (sub_cons rfl (sub_cons rfl (sub_cons rfl (sub_cons rfl (sub_cons rfl (sub_cons rfl (sub_nil)))))))))))) hS15
          refine anyS_cut (fuel' := 6) (listed' := #[true, true, true, false, false, false, true, true, false, false, true, false]) (st' := ⟨[(52, .val (.int .i16 p)), (53, .ptr 1 0 0), (58, .sl 9 (pls xs)), (6, .ptr 3 0 0), (2, .ptr 0 0 0), (3, .ptr 1 0 0), (4, .ptr 2 0 0)], [(3, ⟨29, 2, true, [[.val (.int .i16 0), .nil]]⟩), (2, ⟨29, 2, true, [[.val (.int .i16 0), .nil]]⟩), (1, ⟨29, 2, true, [[.val (.int .i16 q), .sl 9 (pls ys)]]⟩), (0, ⟨29, 2, true, [[.val (.int .i16 p), .sl 9 (pls xs)]]⟩)], 4⟩) ?_ (fun hS22 => ?_)
          · skip
            refine anyS_cons T0_ok hP hm hN (by rfl) [3, 5] (by rfl) rfl ?_
            refine ⟨⟨_, rfl, rfl, ?_⟩, ?_⟩
            · skip
              refine g1 ?_
              refine anyS_floatV T0_ok hP hm hN (by rfl) 4 rfl rfl (by rfl) (by rfl) (by first | trivial | rfl | exact ⟨rfl, rfl⟩ | exact ⟨rfl, rfl, fun _ => rfl, Nat.le_of_ble_eq_true rfl, .inl rfl⟩ | exact ⟨rfl, rfl, fun h => (nomatch h), Nat.le_of_ble_eq_true rfl, .inl rfl⟩ | exact ⟨rfl, rfl, fun _ => rfl, Nat.le_of_ble_eq_true rfl, .inr rfl⟩ | exact ⟨rfl, rfl, fun h => (nomatch h), Nat.le_of_ble_eq_true rfl, .inr rfl⟩ | omega | exact ⟨rfl, by (repeat (first | exact fm_nil | refine fm_cons ⟨rfl, rfl⟩ ?_)), Nat.le_of_ble_eq_true rfl, Nat.le_of_ble_eq_true rfl⟩ | (refine ⟨?_, ?_, ?_, ?_, ?_, ?_, ?_⟩ <;> first | omega | exact Nat.le_of_ble_eq_true rfl) | exact ⟨rfl, by omega, by (try simp only [List.length_map, List.length_set]); omega⟩ | exact ⟨rfl, by omega, by simp only [Int.toNat_natCast]; omega, by omega, Nat.le_of_ble_eq_true rfl, rfl⟩) rfl (by rfl) (by rfl) (by rfl) ?_
              refine g1 ?_
              exact anyS_weak (st' := ⟨[(55, .val (.int .i16 (p + q))), (58, .sl 9 (pls xs)), (6, .ptr 3 0 0), (2, .ptr 0 0 0), (3, .ptr 1 0 0), (4, .ptr 2 0 0)], [(3, ⟨29, 2, true, [[.val (.int .i16 0), .nil]]⟩), (2, ⟨29, 2, true, [[.val (.int .i16 0), .nil]]⟩), (1, ⟨29, 2, true, [[.val (.int .i16 q), .sl 9 (pls ys)]]⟩), (0, ⟨29, 2, true, [[.val (.int .i16 p), .sl 9 (pls xs)]]⟩)], 4⟩) (by exact weak_sl (sub_cons rfl (sub_cons rfl (sub_cons rfl (sub_cons rfl (sub_cons rfl (sub_cons rfl (sub_nil)))))))) hS8
            refine ⟨⟨_, rfl, rfl, ?_⟩, trivial⟩
            refine g1 ?_
            exact anyS_weak (st' := ⟨[(52, .val (.int .i16 p)), (53, .ptr 1 0 0), (56, .own 3), (58, .sl 9 (pls xs)), (6, .ptr 4 0 0), (2, .ptr 0 0 0), (3, .ptr 1 0 0), (4, .ptr 2 0 0)], [(4, ⟨29, 2, true, [[.val (.int .i16 0), .nil]]⟩), (3, ⟨47, 9, false, pls []⟩), (2, ⟨29, 2, true, [[.val (.int .i16 0), .nil]]⟩), (1, ⟨29, 2, true, [[.val (.int .i16 q), .sl 9 (pls ys)]]⟩), (0, ⟨29, 2, true, [[.val (.int .i16 p), .sl 9 (pls xs)]]⟩)], 5⟩) (by first | exact weak_sl (sub_cons rfl (sub_cons rfl (sub_cons rfl (sub_cons rfl (sub_cons rfl (sub_cons rfl (sub_cons rfl (sub_cons rfl (sub_nil))))))))) | exact Weak.trans (weak_swap 3 4 (by omega) (by omega) (by omega) (by omega)) (Weak.trans (weak_perm (subhp_cons rfl (subhp_cons rfl (subhp_cons rfl (subhp_cons rfl (subhp_cons rfl (subhp_nil)))))) (subhp_cons rfl (subhp_cons rfl (subhp_cons rfl (subhp_cons rfl (subhp_cons rfl (subhp_nil))))))) (weak_sl (sub_cons rfl (sub_cons rfl (sub_cons rfl (sub_cons rfl (sub_cons rfl (sub_cons rfl (sub_cons rfl (sub_cons rfl (sub_nil)))))))))))) hS15
          refine anyS_cut (fuel' := 6) (listed' := #[true, false, true, true, false, true, true, true, false, false, false, false]) (st' := ⟨[(51, .ptr 0 0 0), (54, .val (.int .i16 q)), (56, .own 3), (58, .sl 9 (pls xs)), (2, .ptr 0 0 0), (3, .ptr 1 0 0), (4, .ptr 2 0 0)], [(3, ⟨47, 9, false, pls []⟩), (2, ⟨29, 2, true, [[.val (.int .i16 0), .nil]]⟩), (1, ⟨29, 2, true, [[.val (.int .i16 q), .sl 9 (pls ys)]]⟩), (0, ⟨29, 2, true, [[.val (.int .i16 p), .sl 9 (pls xs)]]⟩)], 4⟩) ?_ (fun hS23 => ?_)
          · skip
            refine anyS_cons T0_ok hP hm hN (by rfl) [1, 8, 10] (by rfl) rfl ?_
            refine ⟨⟨_, rfl, rfl, ?_⟩, ?_⟩
            · skip
              refine g1 ?_
              refine anyS_floatV T0_ok hP hm hN (by rfl) 4 rfl rfl (by rfl) (by rfl) (by first | trivial | rfl | exact ⟨rfl, rfl⟩ | exact ⟨rfl, rfl, fun _ => rfl, Nat.le_of_ble_eq_true rfl, .inl rfl⟩ | exact ⟨rfl, rfl, fun h => (nomatch h), Nat.le_of_ble_eq_true rfl, .inl rfl⟩ | exact ⟨rfl, rfl, fun _ => rfl, Nat.le_of_ble_eq_true rfl, .inr rfl⟩ | exact ⟨rfl, rfl, fun h => (nomatch h), Nat.le_of_ble_eq_true rfl, .inr rfl⟩ | omega | exact ⟨rfl, by (repeat (first | exact fm_nil | refine fm_cons ⟨rfl, rfl⟩ ?_)), Nat.le_of_ble_eq_true rfl, Nat.le_of_ble_eq_true rfl⟩ | (refine ⟨?_, ?_, ?_, ?_, ?_, ?_, ?_⟩ <;> first | omega | exact Nat.le_of_ble_eq_true rfl) | exact ⟨rfl, by omega, by (try simp only [List.length_map, List.length_set]); omega⟩ | exact ⟨rfl, by omega, by simp only [Int.toNat_natCast]; omega, by omega, Nat.le_of_ble_eq_true rfl, rfl⟩) rfl (by rfl) (by rfl) (by rfl) ?_
              refine g1 ?_
              exact anyS_weak (st' := ⟨[(55, .val (.int .i16 (p + q))), (56, .own 3), (58, .sl 9 (pls xs)), (2, .ptr 0 0 0), (3, .ptr 1 0 0), (4, .ptr 2 0 0)], [(3, ⟨47, 9, false, pls []⟩), (2, ⟨29, 2, true, [[.val (.int .i16 0), .nil]]⟩), (1, ⟨29, 2, true, [[.val (.int .i16 q), .sl 9 (pls ys)]]⟩), (0, ⟨29, 2, true, [[.val (.int .i16 p), .sl 9 (pls xs)]]⟩)], 4⟩) (by exact weak_sl (sub_cons rfl (sub_cons rfl (sub_cons rfl (sub_cons rfl (sub_cons rfl (sub_cons rfl (sub_nil)))))))) hS6
            refine ⟨⟨_, rfl, rfl, ?_⟩, ?_⟩
            · skip
              refine ga1 ?_
              exact anyS_weak (st' := ⟨[(51, .ptr 0 0 0), (54, .val (.int .i16 q)), (59, .own 3), (2, .ptr 0 0 0), (3, .ptr 1 0 0), (4, .ptr 2 0 0)], [(3, ⟨47, 9, false, pls xs⟩), (2, ⟨29, 2, true, [[.val (.int .i16 0), .nil]]⟩), (1, ⟨29, 2, true, [[.val (.int .i16 q), .sl 9 (pls ys)]]⟩), (0, ⟨29, 2, true, [[.val (.int .i16 p), .sl 9 (pls xs)]]⟩)], 4⟩) (by exact weak_sl (sub_cons rfl (sub_cons rfl (sub_cons rfl (sub_cons rfl (sub_cons rfl (sub_cons rfl (sub_nil)))))))) hS16
            refine ⟨⟨_, rfl, rfl, ?_⟩, trivial⟩
            refine g1 ?_
            exact anyS_weak (st' := ⟨[(51, .ptr 0 0 0), (54, .val (.int .i16 q)), (56, .own 3), (58, .sl 9 (pls xs)), (6, .ptr 4 0 0), (2, .ptr 0 0 0), (3, .ptr 1 0 0), (4, .ptr 2 0 0)], [(4, ⟨29, 2, true, [[.val (.int .i16 0), .nil]]⟩), (3, ⟨47, 9, false, pls []⟩), (2, ⟨29, 2, true, [[.val (.int .i16 0), .nil]]⟩), (1, ⟨29, 2, true, [[.val (.int .i16 q), .sl 9 (pls ys)]]⟩), (0, ⟨29, 2, true, [[.val (.int .i16 p), .sl 9 (pls xs)]]⟩)], 5⟩) (by first | exact weak_sl (sub_cons rfl (sub_cons rfl (sub_cons rfl (sub_cons rfl (sub_cons rfl (sub_cons rfl (sub_cons rfl (sub_cons rfl (sub_nil))))))))) | exact Weak.trans (weak_swap 3 4 (by omega) (by omega) (by omega) (by omega)) (Weak.trans (weak_perm (subhp_cons rfl (subhp_cons rfl (subhp_cons rfl (subhp_cons rfl (subhp_cons rfl (subhp_nil)))))) (subhp_cons rfl (subhp_cons rfl (subhp_cons rfl (subhp_cons rfl (subhp_cons rfl (subhp_nil))))))) (weak_sl (sub_cons rfl (sub_cons rfl (sub_cons rfl (sub_cons rfl (sub_cons rfl (sub_cons rfl (sub_cons rfl (sub_cons rfl (sub_nil)))))))))))) hS17
          refine anyS_cut (fuel' := 6) (listed' := #[true, false, true, true, false, true, true, false, false, false, true, false]) (st' := ⟨[(51, .ptr 0 0 0), (54, .val (.int .i16 q)), (56, .own 3), (57, .ptr 0 0 1), (6, .ptr 4 0 0), (2, .ptr 0 0 0), (3, .ptr 1 0 0), (4, .ptr 2 0 0)], [(4, ⟨29, 2, true, [[.val (.int .i16 0), .nil]]⟩), (3, ⟨47, 9, false, pls []⟩), (2, ⟨29, 2, true, [[.val (.int .i16 0), .nil]]⟩), (1, ⟨29, 2, true, [[.val (.int .i16 q), .sl 9 (pls ys)]]⟩), (0, ⟨29, 2, true, [[.val (.int .i16 p), .sl 9 (pls xs)]]⟩)], 5⟩) ?_ (fun hS24 => ?_)
          · skip
            refine anyS_cons T0_ok hP hm hN (by rfl) [1, 7] (by rfl) rfl ?_
            refine ⟨⟨_, rfl, rfl, ?_⟩, ?_⟩
            · skip
              refine g1 ?_
              refine anyS_floatV T0_ok hP hm hN (by rfl) 4 rfl rfl (by rfl) (by rfl) (by first | trivial | rfl | exact ⟨rfl, rfl⟩ | exact ⟨rfl, rfl, fun _ => rfl, Nat.le_of_ble_eq_true rfl, .inl rfl⟩ | exact ⟨rfl, rfl, fun h => (nomatch h), Nat.le_of_ble_eq_true rfl, .inl rfl⟩ | exact ⟨rfl, rfl, fun _ => rfl, Nat.le_of_ble_eq_true rfl, .inr rfl⟩ | exact ⟨rfl, rfl, fun h => (nomatch h), Nat.le_of_ble_eq_true rfl, .inr rfl⟩ | omega | exact ⟨rfl, by (repeat (first | exact fm_nil | refine fm_cons ⟨rfl, rfl⟩ ?_)), Nat.le_of_ble_eq_true rfl, Nat.le_of_ble_eq_true rfl⟩ | (refine ⟨?_, ?_, ?_, ?_, ?_, ?_, ?_⟩ <;> first | omega | exact Nat.le_of_ble_eq_true rfl) | exact ⟨rfl, by omega, by (try simp only [List.length_map, List.length_set]); omega⟩ | exact ⟨rfl, by omega, by simp only [Int.toNat_natCast]; omega, by omega, Nat.le_of_ble_eq_true rfl, rfl⟩) rfl (by rfl) (by rfl) (by rfl) ?_
              refine g1 ?_
              exact anyS_weak (st' := ⟨[(55, .val (.int .i16 (p + q))), (56, .own 3), (57, .ptr 0 0 1), (6, .ptr 4 0 0), (2, .ptr 0 0 0), (3, .ptr 1 0 0), (4, .ptr 2 0 0)], [(4, ⟨29, 2, true, [[.val (.int .i16 0), .nil]]⟩), (3, ⟨47, 9, false, pls []⟩), (2, ⟨29, 2, true, [[.val (.int .i16 0), .nil]]⟩), (1, ⟨29, 2, true, [[.val (.int .i16 q), .sl 9 (pls ys)]]⟩), (0, ⟨29, 2, true, [[.val (.int .i16 p), .sl 9 (pls xs)]]⟩)], 5⟩) (by first | exact weak_sl (sub_cons rfl (sub_cons rfl (sub_cons rfl (sub_cons rfl (sub_cons rfl (sub_cons rfl (sub_cons rfl (sub_nil)))))))) | exact Weak.trans (weak_swap 3 4 (by omega) (by omega) (by omega) (by omega)) (Weak.trans (weak_perm (subhp_cons rfl (subhp_cons rfl (subhp_cons rfl (subhp_cons rfl (subhp_cons rfl (subhp_nil)))))) (subhp_cons rfl (subhp_cons rfl (subhp_cons rfl (subhp_cons rfl (subhp_cons rfl (subhp_nil))))))) (weak_sl (sub_cons rfl (sub_cons rfl (sub_cons rfl (sub_cons rfl (sub_cons rfl (sub_cons rfl (sub_cons rfl (sub_nil))))))))))) hS7
            refine ⟨⟨_, rfl, rfl, ?_⟩, trivial⟩
            refine g1 ?_
            exact anyS_weak (st' := ⟨[(51, .ptr 0 0 0), (54, .val (.int .i16 q)), (56, .own 3), (58, .sl 9 (pls xs)), (6, .ptr 4 0 0), (2, .ptr 0 0 0), (3, .ptr 1 0 0), (4, .ptr 2 0 0)], [(4, ⟨29, 2, true, [[.val (.int .i16 0), .nil]]⟩), (3, ⟨47, 9, false, pls []⟩), (2, ⟨29, 2, true, [[.val (.int .i16 0), .nil]]⟩), (1, ⟨29, 2, true, [[.val (.int .i16 q), .sl 9 (pls ys)]]⟩), (0, ⟨29, 2, true, [[.val (.int .i16 p), .sl 9 (pls xs)]]⟩)], 5⟩) (by first | exact weak_sl (sub_cons rfl (sub_cons rfl (sub_cons rfl (sub_cons rfl (sub_cons rfl (sub_cons rfl (sub_cons rfl (sub_cons rfl (sub_nil))))))))) | exact Weak.trans (weak_swap 3 4 (by omega) (by omega) (by omega) (by omega)) (Weak.trans (weak_perm (subhp_cons rfl (subhp_cons rfl (subhp_cons rfl (subhp_cons rfl (subhp_cons rfl (subhp_nil)))))) (subhp_cons rfl (subhp_cons rfl (subhp_cons rfl (subhp_cons rfl (subhp_cons rfl (subhp_nil))))))) (weak_sl (sub_cons rfl (sub_cons rfl (sub_cons rfl (sub_cons rfl (sub_cons rfl (sub_cons rfl (sub_cons rfl (sub_cons rfl (sub_nil)))))))))))) hS17
          refine anyS_cut (fuel' := 6) (listed' := #[true, false, true, true, false, false, true, true, false, false, true, false]) (st' := ⟨[(51, .ptr 0 0 0), (54, .val (.int .i16 q)), (58, .sl 9 (pls xs)), (6, .ptr 3 0 0), (2, .ptr 0 0 0), (3, .ptr 1 0 0), (4, .ptr 2 0 0)], [(3, ⟨29, 2, true, [[.val (.int .i16 0), .nil]]⟩), (2, ⟨29, 2, true, [[.val (.int .i16 0), .nil]]⟩), (1, ⟨29, 2, true, [[.val (.int .i16 q), .sl 9 (pls ys)]]⟩), (0, ⟨29, 2, true, [[.val (.int .i16 p), .sl 9 (pls xs)]]⟩)], 4⟩) ?_ (fun hS25 => ?_)
          · skip
            refine anyS_cons T0_ok hP hm hN (by rfl) [1, 5] (by rfl) rfl ?_
            refine ⟨⟨_, rfl, rfl, ?_⟩, ?_⟩
            · skip
              refine g1 ?_
              refine anyS_floatV T0_ok hP hm hN (by rfl) 4 rfl rfl (by rfl) (by rfl) (by first | trivial | rfl | exact ⟨rfl, rfl⟩ | exact ⟨rfl, rfl, fun _ => rfl, Nat.le_of_ble_eq_true rfl, .inl rfl⟩ | exact ⟨rfl, rfl, fun h => (nomatch h), Nat.le_of_ble_eq_true rfl, .inl rfl⟩ | exact ⟨rfl, rfl, fun _ => rfl, Nat.le_of_ble_eq_true rfl, .inr rfl⟩ | exact ⟨rfl, rfl, fun h => (nomatch h), Nat.le_of_ble_eq_true rfl, .inr rfl⟩ | omega | exact ⟨rfl, by (repeat (first | exact fm_nil | refine fm_cons ⟨rfl, rfl⟩ ?_)), Nat.le_of_ble_eq_true rfl, Nat.le_of_ble_eq_true rfl⟩ | (refine ⟨?_, ?_, ?_, ?_, ?_, ?_, ?_⟩ <;> first | omega | exact Nat.le_of_ble_eq_true rfl) | exact ⟨rfl, by omega, by (try simp only [List.length_map, List.length_set]); omega⟩ | exact ⟨rfl, by omega, by simp only [Int.toNat_natCast]; omega, by omega, Nat.le_of_ble_eq_true rfl, rfl⟩) rfl (by rfl) (by rfl) (by rfl) ?_
              refine g1 ?_
              exact anyS_weak (st' := ⟨[(55, .val (.int .i16 (p + q))), (58, .sl 9 (pls xs)), (6, .ptr 3 0 0), (2, .ptr 0 0 0), (3, .ptr 1 0 0), (4, .ptr 2 0 0)], [(3, ⟨29, 2, true, [[.val (.int .i16 0), .nil]]⟩), (2, ⟨29, 2, true, [[.val (.int .i16 0), .nil]]⟩), (1, ⟨29, 2, true, [[.val (.int .i16 q), .sl 9 (pls ys)]]⟩), (0, ⟨29, 2, true, [[.val (.int .i16 p), .sl 9 (pls xs)]]⟩)], 4⟩) (by exact weak_sl (sub_cons rfl (sub_cons rfl (sub_cons rfl (sub_cons rfl (sub_cons rfl (sub_cons rfl (sub_nil)))))))) hS8
            refine ⟨⟨_, rfl, rfl, ?_⟩, trivial⟩
            refine g1 ?_
            exact anyS_weak (st' := ⟨[(51, .ptr 0 0 0), (54, .val (.int .i16 q)), (56, .own 3), (58, .sl 9 (pls xs)), (6, .ptr 4 0 0), (2, .ptr 0 0 0), (3, .ptr 1 0 0), (4, .ptr 2 0 0)], [(4, ⟨29, 2, true, [[.val (.int .i16 0), .nil]]⟩), (3, ⟨47, 9, false, pls []⟩), (2, ⟨29, 2, true, [[.val (.int .i16 0), .nil]]⟩), (1, ⟨29, 2, true, [[.val (.int .i16 q), .sl 9 (pls ys)]]⟩), (0, ⟨29, 2, true, [[.val (.int .i16 p), .sl 9 (pls xs)]]⟩)], 5⟩) (by first | exact weak_sl (sub_cons rfl (sub_cons rfl (sub_cons rfl (sub_cons rfl (sub_cons rfl (sub_cons rfl (sub_cons rfl (sub_cons rfl (sub_nil))))))))) | exact Weak.trans (weak_swap 3 4 (by omega) (by omega) (by omega) (by omega)) (Weak.trans (weak_perm (subhp_cons rfl (subhp_cons rfl (subhp_cons rfl (subhp_cons rfl (subhp_cons rfl (subhp_nil)))))) (subhp_cons rfl (subhp_cons rfl (subhp_cons rfl (subhp_cons rfl (subhp_cons rfl (subhp_nil))))))) (weak_sl (sub_cons rfl (sub_cons rfl (sub_cons rfl (sub_cons rfl (sub_cons rfl (sub_cons rfl (sub_cons rfl (sub_cons rfl (sub_nil)))))))))))) hS17
          refine anyS_cut (fuel' := 6) (listed' := #[true, false, true, false, false, true, true, true, true, false, false, false]) (st' := ⟨[(51, .ptr 0 0 0), (53, .ptr 1 0 0), (59, .own 3), (2, .ptr 0 0 0), (3, .ptr 1 0 0), (4, .ptr 2 0 0)], [(3, ⟨47, 9, false, pls xs⟩), (2, ⟨29, 2, true, [[.val (.int .i16 0), .nil]]⟩), (1, ⟨29, 2, true, [[.val (.int .i16 q), .sl 9 (pls ys)]]⟩), (0, ⟨29, 2, true, [[.val (.int .i16 p), .sl 9 (pls xs)]]⟩)], 4⟩) ?_ (fun hS26 => ?_)
          · skip
            refine anyS_cons T0_ok hP hm hN (by rfl) [1, 3, 10] (by rfl) rfl ?_
            refine ⟨⟨_, rfl, rfl, ?_⟩, ?_⟩
            · skip
              refine g1 ?_
              exact anyS_weak (st' := ⟨[(52, .val (.int .i16 p)), (53, .ptr 1 0 0), (59, .own 3), (2, .ptr 0 0 0), (3, .ptr 1 0 0), (4, .ptr 2 0 0)], [(3, ⟨47, 9, false, pls xs⟩), (2, ⟨29, 2, true, [[.val (.int .i16 0), .nil]]⟩), (1, ⟨29, 2, true, [[.val (.int .i16 q), .sl 9 (pls ys)]]⟩), (0, ⟨29, 2, true, [[.val (.int .i16 p), .sl 9 (pls xs)]]⟩)], 4⟩) (by exact weak_sl (sub_cons rfl (sub_cons rfl (sub_cons rfl (sub_cons rfl (sub_cons rfl (sub_cons rfl (sub_nil)))))))) hS14
            refine ⟨⟨_, rfl, rfl, ?_⟩, ?_⟩
            · skip
              refine g1 ?_
              exact anyS_weak (st' := ⟨[(51, .ptr 0 0 0), (54, .val (.int .i16 q)), (59, .own 3), (2, .ptr 0 0 0), (3, .ptr 1 0 0), (4, .ptr 2 0 0)], [(3, ⟨47, 9, false, pls xs⟩), (2, ⟨29, 2, true, [[.val (.int .i16 0), .nil]]⟩), (1, ⟨29, 2, true, [[.val (.int .i16 q), .sl 9 (pls ys)]]⟩), (0, ⟨29, 2, true, [[.val (.int .i16 p), .sl 9 (pls xs)]]⟩)], 4⟩) (by exact weak_sl (sub_cons rfl (sub_cons rfl (sub_cons rfl (sub_cons rfl (sub_cons rfl (sub_cons rfl (sub_nil)))))))) hS16
            refine ⟨⟨_, rfl, rfl, ?_⟩, trivial⟩
            refine g1 ?_
            exact anyS_weak (st' := ⟨[(51, .ptr 0 0 0), (53, .ptr 1 0 0), (59, .own 3), (6, .ptr 4 0 0), (2, .ptr 0 0 0), (3, .ptr 1 0 0), (4, .ptr 2 0 0)], [(4, ⟨29, 2, true, [[.val (.int .i16 0), .nil]]⟩), (3, ⟨47, 9, false, pls xs⟩), (2, ⟨29, 2, true, [[.val (.int .i16 0), .nil]]⟩), (1, ⟨29, 2, true, [[.val (.int .i16 q), .sl 9 (pls ys)]]⟩), (0, ⟨29, 2, true, [[.val (.int .i16 p), .sl 9 (pls xs)]]⟩)], 5⟩) (by first | exact weak_sl (sub_cons rfl (sub_cons rfl (sub_cons rfl (sub_cons rfl (sub_cons rfl (sub_cons rfl (sub_cons rfl (sub_nil)))))))) | exact Weak.trans (weak_swap 3 4 (by omega) (by omega) (by omega) (by omega)) (Weak.trans (weak_perm (subhp_cons rfl (subhp_cons rfl (subhp_cons rfl (subhp_cons rfl (subhp_cons rfl (subhp_nil)))))) (subhp_cons rfl (subhp_cons rfl (subhp_cons rfl (subhp_cons rfl (subhp_cons rfl (subhp_nil))))))) (weak_sl (sub_cons rfl (sub_cons rfl (sub_cons rfl (sub_cons rfl (sub_cons rfl (sub_cons rfl (sub_cons rfl (sub_nil))))))))))) hS18
          refine anyS_cut (fuel' := 6) (listed' := #[true, false, true, false, false, true, true, true, false, false, true, false]) (st' := ⟨[(51, .ptr 0 0 0), (53, .ptr 1 0 0), (56, .own 3), (58, .sl 9 (pls xs)), (6, .ptr 4 0 0), (2, .ptr 0 0 0), (3, .ptr 1 0 0), (4, .ptr 2 0 0)], [(4, ⟨29, 2, true, [[.val (.int .i16 0), .nil]]⟩), (3, ⟨47, 9, false, pls []⟩), (2, ⟨29, 2, true, [[.val (.int .i16 0), .nil]]⟩), (1, ⟨29, 2, true, [[.val (.int .i16 q), .sl 9 (pls ys)]]⟩), (0, ⟨29, 2, true, [[.val (.int .i16 p), .sl 9 (pls xs)]]⟩)], 5⟩) ?_ (fun hS27 => ?_)
          · skip
            refine anyS_cons T0_ok hP hm hN (by rfl) [1, 3, 8] (by rfl) rfl ?_
            refine ⟨⟨_, rfl, rfl, ?_⟩, ?_⟩
            · skip
              refine g1 ?_
              exact anyS_weak (st' := ⟨[(52, .val (.int .i16 p)), (53, .ptr 1 0 0), (56, .own 3), (58, .sl 9 (pls xs)), (6, .ptr 4 0 0), (2, .ptr 0 0 0), (3, .ptr 1 0 0), (4, .ptr 2 0 0)], [(4, ⟨29, 2, true, [[.val (.int .i16 0), .nil]]⟩), (3, ⟨47, 9, false, pls []⟩), (2, ⟨29, 2, true, [[.val (.int .i16 0), .nil]]⟩), (1, ⟨29, 2, true, [[.val (.int .i16 q), .sl 9 (pls ys)]]⟩), (0, ⟨29, 2, true, [[.val (.int .i16 p), .sl 9 (pls xs)]]⟩)], 5⟩) (by first | exact weak_sl (sub_cons rfl (sub_cons rfl (sub_cons rfl (sub_cons rfl (sub_cons rfl (sub_cons rfl (sub_cons rfl (sub_cons rfl (sub_nil))))))))) | exact Weak.trans (weak_swap 3 4 (by omega) (by omega) (by omega) (by omega)) (Weak.trans (weak_perm (subhp_cons rfl (subhp_cons rfl (subhp_cons rfl (subhp_cons rfl (subhp_cons rfl (subhp_nil)))))) (subhp_cons rfl (subhp_cons rfl (subhp_cons rfl (subhp_cons rfl (subhp_cons rfl (subhp_nil))))))) (weak_sl (sub_cons rfl (sub_cons rfl (sub_cons rfl (sub_cons rfl (sub_cons rfl (sub_cons rfl (sub_cons rfl (sub_cons rfl (sub_nil)))))))))))) hS15
            refine ⟨⟨_, rfl, rfl, ?_⟩, ?_⟩
            · skip
              refine g1 ?_
              exact anyS_weak (st' := ⟨[(51, .ptr 0 0 0), (54, .val (.int .i16 q)), (56, .own 3), (58, .sl 9 (pls xs)), (6, .ptr 4 0 0), (2, .ptr 0 0 0), (3, .ptr 1 0 0), (4, .ptr 2 0 0)], [(4, ⟨29, 2, true, [[.val (.int .i16 0), .nil]]⟩), (3, ⟨47, 9, false, pls []⟩), (2, ⟨29, 2, true, [[.val (.int .i16 0), .nil]]⟩), (1, ⟨29, 2, true, [[.val (.int .i16 q), .sl 9 (pls ys)]]⟩), (0, ⟨29, 2, true, [[.val (.int .i16 p), .sl 9 (pls xs)]]⟩)], 5⟩) (by first | exact weak_sl (sub_cons rfl (sub_cons rfl (sub_cons rfl (sub_cons rfl (sub_cons rfl (sub_cons rfl (sub_cons rfl (sub_cons rfl (sub_nil))))))))) | exact Weak.trans (weak_swap 3 4 (by omega) (by omega) (by omega) (by omega)) (Weak.trans (weak_perm (subhp_cons rfl (subhp_cons rfl (subhp_cons rfl (subhp_cons rfl (subhp_cons rfl (subhp_nil)))))) (subhp_cons rfl (subhp_cons rfl (subhp_cons rfl (subhp_cons rfl (subhp_cons rfl (subhp_nil))))))) (weak_sl (sub_cons rfl (sub_cons rfl (sub_cons rfl (sub_cons rfl (sub_cons rfl (sub_cons rfl (sub_cons rfl (sub_cons rfl (sub_nil)))))))))))) hS17
            refine ⟨⟨_, rfl, rfl, ?_⟩, trivial⟩
            refine ga1 ?_
            exact anyS_weak (st' := ⟨[(51, .ptr 0 0 0), (53, .ptr 1 0 0), (59, .own 3), (6, .ptr 4 0 0), (2, .ptr 0 0 0), (3, .ptr 1 0 0), (4, .ptr 2 0 0)], [(4, ⟨29, 2, true, [[.val (.int .i16 0), .nil]]⟩), (3, ⟨47, 9, false, pls xs⟩), (2, ⟨29, 2, true, [[.val (.int .i16 0), .nil]]⟩), (1, ⟨29, 2, true, [[.val (.int .i16 q), .sl 9 (pls ys)]]⟩), (0, ⟨29, 2, true, [[.val (.int .i16 p), .sl 9 (pls xs)]]⟩)], 5⟩) (by first | exact weak_sl (sub_cons rfl (sub_cons rfl (sub_cons rfl (sub_cons rfl (sub_cons rfl (sub_cons rfl (sub_cons rfl (sub_nil)))))))) | exact Weak.trans (weak_swap 3 4 (by omega) (by omega) (by omega) (by omega)) (Weak.trans (weak_perm (subhp_cons rfl (subhp_cons rfl (subhp_cons rfl (subhp_cons rfl (subhp_cons rfl (subhp_nil)))))) (subhp_cons rfl (subhp_cons rfl (subhp_cons rfl (subhp_cons rfl (subhp_cons rfl (subhp_nil))))))) (weak_sl (sub_cons rfl (sub_cons rfl (sub_cons rfl (sub_cons rfl (sub_cons rfl (sub_cons rfl (sub_cons rfl (sub_nil))))))))))) hS18
          refine anyS_cut (fuel' := 7) (listed' := #[true, true, true, false, false, true, true, false, false, false, false, false]) (st' := ⟨[(52, .val (.int .i16 p)), (53, .ptr 1 0 0), (56, .own 3), (57, .ptr 0 0 1), (2, .ptr 0 0 0), (3, .ptr 1 0 0), (4, .ptr 2 0 0)], [(3, ⟨47, 9, false, pls []⟩), (2, ⟨29, 2, true, [[.val (.int .i16 0), .nil]]⟩), (1, ⟨29, 2, true, [[.val (.int .i16 q), .sl 9 (pls ys)]]⟩), (0, ⟨29, 2, true, [[.val (.int .i16 p), .sl 9 (pls xs)]]⟩)], 4⟩) ?_ (fun hS28 => ?_)
          · skip
            refine anyS_cons T0_ok hP hm hN (by rfl) [3, 7, 10] (by rfl) rfl ?_
            refine ⟨⟨_, rfl, rfl, ?_⟩, ?_⟩
            · skip
              refine g1 ?_
              refine anyS_floatV T0_ok hP hm hN (by rfl) 4 rfl rfl (by rfl) (by rfl) (by first | trivial | rfl | exact ⟨rfl, rfl⟩ | exact ⟨rfl, rfl, fun _ => rfl, Nat.le_of_ble_eq_true rfl, .inl rfl⟩ | exact ⟨rfl, rfl, fun h => (nomatch h), Nat.le_of_ble_eq_true rfl, .inl rfl⟩ | exact ⟨rfl, rfl, fun _ => rfl, Nat.le_of_ble_eq_true rfl, .inr rfl⟩ | exact ⟨rfl, rfl, fun h => (nomatch h), Nat.le_of_ble_eq_true rfl, .inr rfl⟩ | omega | exact ⟨rfl, by (repeat (first | exact fm_nil | refine fm_cons ⟨rfl, rfl⟩ ?_)), Nat.le_of_ble_eq_true rfl, Nat.le_of_ble_eq_true rfl⟩ | (refine ⟨?_, ?_, ?_, ?_, ?_, ?_, ?_⟩ <;> first | omega | exact Nat.le_of_ble_eq_true rfl) | exact ⟨rfl, by omega, by (try simp only [List.length_map, List.length_set]); omega⟩ | exact ⟨rfl, by omega, by simp only [Int.toNat_natCast]; omega, by omega, Nat.le_of_ble_eq_true rfl, rfl⟩) rfl (by rfl) (by rfl) (by rfl) ?_
              refine g1 ?_
              exact anyS_weak (st' := ⟨[(55, .val (.int .i16 (p + q))), (56, .own 3), (57, .ptr 0 0 1), (2, .ptr 0 0 0), (3, .ptr 1 0 0), (4, .ptr 2 0 0)], [(3, ⟨47, 9, false, pls []⟩), (2, ⟨29, 2, true, [[.val (.int .i16 0), .nil]]⟩), (1, ⟨29, 2, true, [[.val (.int .i16 q), .sl 9 (pls ys)]]⟩), (0, ⟨29, 2, true, [[.val (.int .i16 p), .sl 9 (pls xs)]]⟩)], 4⟩) (by exact weak_sl (sub_cons rfl (sub_cons rfl (sub_cons rfl (sub_cons rfl (sub_cons rfl (sub_cons rfl (sub_nil)))))))) hS11
            refine ⟨⟨_, rfl, rfl, ?_⟩, ?_⟩
            · skip
              refine g1 ?_
              exact anyS_weak (st' := ⟨[(52, .val (.int .i16 p)), (53, .ptr 1 0 0), (56, .own 3), (58, .sl 9 (pls xs)), (2, .ptr 0 0 0), (3, .ptr 1 0 0), (4, .ptr 2 0 0)], [(3, ⟨47, 9, false, pls []⟩), (2, ⟨29, 2, true, [[.val (.int .i16 0), .nil]]⟩), (1, ⟨29, 2, true, [[.val (.int .i16 q), .sl 9 (pls ys)]]⟩), (0, ⟨29, 2, true, [[.val (.int .i16 p), .sl 9 (pls xs)]]⟩)], 4⟩) (by exact weak_sl (sub_cons rfl (sub_cons rfl (sub_cons rfl (sub_cons rfl (sub_cons rfl (sub_cons rfl (sub_cons rfl (sub_nil))))))))) hS20
            refine ⟨⟨_, rfl, rfl, ?_⟩, trivial⟩
            refine g1 ?_
            exact anyS_weak (st' := ⟨[(52, .val (.int .i16 p)), (53, .ptr 1 0 0), (56, .own 3), (57, .ptr 0 0 1), (6, .ptr 4 0 0), (2, .ptr 0 0 0), (3, .ptr 1 0 0), (4, .ptr 2 0 0)], [(4, ⟨29, 2, true, [[.val (.int .i16 0), .nil]]⟩), (3, ⟨47, 9, false, pls []⟩), (2, ⟨29, 2, true, [[.val (.int .i16 0), .nil]]⟩), (1, ⟨29, 2, true, [[.val (.int .i16 q), .sl 9 (pls ys)]]⟩), (0, ⟨29, 2, true, [[.val (.int .i16 p), .sl 9 (pls xs)]]⟩)], 5⟩) (by first | exact weak_sl (sub_cons rfl (sub_cons rfl (sub_cons rfl (sub_cons rfl (sub_cons rfl (sub_cons rfl (sub_cons rfl (sub_cons rfl (sub_nil))))))))) | exact Weak.trans (weak_swap 3 4 (by omega) (by omega) (by omega) (by omega)) (Weak.trans (weak_perm (subhp_cons rfl (subhp_cons rfl (subhp_cons rfl (subhp_cons rfl (subhp_cons rfl (subhp_nil)))))) (subhp_cons rfl (subhp_cons rfl (subhp_cons rfl (subhp_cons rfl (subhp_cons rfl (subhp_nil))))))) (weak_sl (sub_cons rfl (sub_cons rfl (sub_cons rfl (sub_cons rfl (sub_cons rfl (sub_cons rfl (sub_cons rfl (sub_cons rfl (sub_nil)))))))))))) hS21
          refine anyS_cut (fuel' := 7) (listed' := #[true, true, true, false, false, false, true, true, false, false, false, false]) (st' := ⟨[(52, .val (.int .i16 p)), (53, .ptr 1 0 0), (58, .sl 9 (pls xs)), (2, .ptr 0 0 0), (3, .ptr 1 0 0), (4, .ptr 2 0 0)], [(2, ⟨29, 2, true, [[.val (.int .i16 0), .nil]]⟩), (1, ⟨29, 2, true, [[.val (.int .i16 q), .sl 9 (pls ys)]]⟩), (0, ⟨29, 2, true, [[.val (.int .i16 p), .sl 9 (pls xs)]]⟩)], 3⟩) ?_ (fun hS29 => ?_)
          · skip
            refine anyS_cons T0_ok hP hm hN (by rfl) [3, 5, 10] (by rfl) rfl ?_
            refine ⟨⟨_, rfl, rfl, ?_⟩, ?_⟩
            · skip
              refine g1 ?_
              refine anyS_floatV T0_ok hP hm hN (by rfl) 4 rfl rfl (by rfl) (by rfl) (by first | trivial | rfl | exact ⟨rfl, rfl⟩ | exact ⟨rfl, rfl, fun _ => rfl, Nat.le_of_ble_eq_true rfl, .inl rfl⟩ | exact ⟨rfl, rfl, fun h => (nomatch h), Nat.le_of_ble_eq_true rfl, .inl rfl⟩ | exact ⟨rfl, rfl, fun _ => rfl, Nat.le_of_ble_eq_true rfl, .inr rfl⟩ | exact ⟨rfl, rfl, fun h => (nomatch h), Nat.le_of_ble_eq_true rfl, .inr rfl⟩ | omega | exact ⟨rfl, by (repeat (first | exact fm_nil | refine fm_cons ⟨rfl, rfl⟩ ?_)), Nat.le_of_ble_eq_true rfl, Nat.le_of_ble_eq_true rfl⟩ | (refine ⟨?_, ?_, ?_, ?_, ?_, ?_, ?_⟩ <;> first | omega | exact Nat.le_of_ble_eq_true rfl) | exact ⟨rfl, by omega, by (try simp only [List.length_map, List.length_set]); omega⟩ | exact ⟨rfl, by omega, by simp only [Int.toNat_natCast]; omega, by omega, Nat.le_of_ble_eq_true rfl, rfl⟩) rfl (by rfl) (by rfl) (by rfl) ?_
              refine g1 ?_
              exact anyS_weak (st' := ⟨[(55, .val (.int .i16 (p + q))), (58, .sl 9 (pls xs)), (2, .ptr 0 0 0), (3, .ptr 1 0 0), (4, .ptr 2 0 0)], [(2, ⟨29, 2, true, [[.val (.int .i16 0), .nil]]⟩), (1, ⟨29, 2, true, [[.val (.int .i16 q), .sl 9 (pls ys)]]⟩), (0, ⟨29, 2, true, [[.val (.int .i16 p), .sl 9 (pls xs)]]⟩)], 3⟩) (by exact weak_sl (sub_cons rfl (sub_cons rfl (sub_cons rfl (sub_cons rfl (sub_cons rfl (sub_nil))))))) hS12
            refine ⟨⟨_, rfl, rfl, ?_⟩, ?_⟩
            · skip
              refine g1 ?_
              exact anyS_weak (st' := ⟨[(52, .val (.int .i16 p)), (53, .ptr 1 0 0), (56, .own 3), (58, .sl 9 (pls xs)), (2, .ptr 0 0 0), (3, .ptr 1 0 0), (4, .ptr 2 0 0)], [(3, ⟨47, 9, false, pls []⟩), (2, ⟨29, 2, true, [[.val (.int .i16 0), .nil]]⟩), (1, ⟨29, 2, true, [[.val (.int .i16 q), .sl 9 (pls ys)]]⟩), (0, ⟨29, 2, true, [[.val (.int .i16 p), .sl 9 (pls xs)]]⟩)], 4⟩) (by exact weak_sl (sub_cons rfl (sub_cons rfl (sub_cons rfl (sub_cons rfl (sub_cons rfl (sub_cons rfl (sub_cons rfl (sub_nil))))))))) hS20
            refine ⟨⟨_, rfl, rfl, ?_⟩, trivial⟩
            refine g1 ?_
            exact anyS_weak (st' := ⟨[(52, .val (.int .i16 p)), (53, .ptr 1 0 0), (58, .sl 9 (pls xs)), (6, .ptr 3 0 0), (2, .ptr 0 0 0), (3, .ptr 1 0 0), (4, .ptr 2 0 0)], [(3, ⟨29, 2, true, [[.val (.int .i16 0), .nil]]⟩), (2, ⟨29, 2, true, [[.val (.int .i16 0), .nil]]⟩), (1, ⟨29, 2, true, [[.val (.int .i16 q), .sl 9 (pls ys)]]⟩), (0, ⟨29, 2, true, [[.val (.int .i16 p), .sl 9 (pls xs)]]⟩)], 4⟩) (by exact weak_sl (sub_cons rfl (sub_cons rfl (sub_cons rfl (sub_cons rfl (sub_cons rfl (sub_cons rfl (sub_cons rfl (sub_nil))))))))) hS22
          refine anyS_cut (fuel' := 7) (listed' := #[true, true, true, false, false, false, true, false, false, false, true, false]) (st' := ⟨[(52, .val (.int .i16 p)), (53, .ptr 1 0 0), (57, .ptr 0 0 1), (6, .ptr 3 0 0), (2, .ptr 0 0 0), (3, .ptr 1 0 0), (4, .ptr 2 0 0)], [(3, ⟨29, 2, true, [[.val (.int .i16 0), .nil]]⟩), (2, ⟨29, 2, true, [[.val (.int .i16 0), .nil]]⟩), (1, ⟨29, 2, true, [[.val (.int .i16 q), .sl 9 (pls ys)]]⟩), (0, ⟨29, 2, true, [[.val (.int .i16 p), .sl 9 (pls xs)]]⟩)], 4⟩) ?_ (fun hS30 => ?_)
          · skip
            refine anyS_cons T0_ok hP hm hN (by rfl) [3, 5, 7] (by rfl) rfl ?_
            refine ⟨⟨_, rfl, rfl, ?_⟩, ?_⟩
            · skip
              refine g1 ?_
              refine anyS_floatV T0_ok hP hm hN (by rfl) 4 rfl rfl (by rfl) (by rfl) (by first | trivial | rfl | exact ⟨rfl, rfl⟩ | exact ⟨rfl, rfl, fun _ => rfl, Nat.le_of_ble_eq_true rfl, .inl rfl⟩ | exact ⟨rfl, rfl, fun h => (nomatch h), Nat.le_of_ble_eq_true rfl, .inl rfl⟩ | exact ⟨rfl, rfl, fun _ => rfl, Nat.le_of_ble_eq_true rfl, .inr rfl⟩ | exact ⟨rfl, rfl, fun h => (nomatch h), Nat.le_of_ble_eq_true rfl, .inr rfl⟩ | omega | exact ⟨rfl, by (repeat (first | exact fm_nil | refine fm_cons ⟨rfl, rfl⟩ ?_)), Nat.le_of_ble_eq_true rfl, Nat.le_of_ble_eq_true rfl⟩ | (refine ⟨?_, ?_, ?_, ?_, ?_, ?_, ?_⟩ <;> first | omega | exact Nat.le_of_ble_eq_true rfl) | exact ⟨rfl, by omega, by (try simp only [List.length_map, List.length_set]); omega⟩ | exact ⟨rfl, by omega, by simp only [Int.toNat_natCast]; omega, by omega, Nat.le_of_ble_eq_true rfl, rfl⟩) rfl (by rfl) (by rfl) (by rfl) ?_
              refine g1 ?_
              exact anyS_weak (st' := ⟨[(55, .val (.int .i16 (p + q))), (57, .ptr 0 0 1), (6, .ptr 3 0 0), (2, .ptr 0 0 0), (3, .ptr 1 0 0), (4, .ptr 2 0 0)], [(3, ⟨29, 2, true, [[.val (.int .i16 0), .nil]]⟩), (2, ⟨29, 2, true, [[.val (.int .i16 0), .nil]]⟩), (1, ⟨29, 2, true, [[.val (.int .i16 q), .sl 9 (pls ys)]]⟩), (0, ⟨29, 2, true, [[.val (.int .i16 p), .sl 9 (pls xs)]]⟩)], 4⟩) (by exact weak_sl (sub_cons rfl (sub_cons rfl (sub_cons rfl (sub_cons rfl (sub_cons rfl (sub_cons rfl (sub_nil)))))))) hS13
            refine ⟨⟨_, rfl, rfl, ?_⟩, ?_⟩
            · skip
              refine g1 ?_
              exact anyS_weak (st' := ⟨[(52, .val (.int .i16 p)), (53, .ptr 1 0 0), (56, .own 3), (57, .ptr 0 0 1), (6, .ptr 4 0 0), (2, .ptr 0 0 0), (3, .ptr 1 0 0), (4, .ptr 2 0 0)], [(4, ⟨29, 2, true, [[.val (.int .i16 0), .nil]]⟩), (3, ⟨47, 9, false, pls []⟩), (2, ⟨29, 2, true, [[.val (.int .i16 0), .nil]]⟩), (1, ⟨29, 2, true, [[.val (.int .i16 q), .sl 9 (pls ys)]]⟩), (0, ⟨29, 2, true, [[.val (.int .i16 p), .sl 9 (pls xs)]]⟩)], 5⟩) (by first | exact weak_sl (sub_cons rfl (sub_cons rfl (sub_cons rfl (sub_cons rfl (sub_cons rfl (sub_cons rfl (sub_cons rfl (sub_cons rfl (sub_nil))))))))) | exact Weak.trans (weak_swap 3 4 (by omega) (by omega) (by omega) (by omega)) (Weak.trans (weak_perm (subhp_cons rfl (subhp_cons rfl (subhp_cons rfl (subhp_cons rfl (subhp_cons rfl (subhp_nil)))))) (subhp_cons rfl (subhp_cons rfl (subhp_cons rfl (subhp_cons rfl (subhp_cons rfl (subhp_nil))))))) (weak_sl (sub_cons rfl (sub_cons rfl (sub_cons rfl (sub_cons rfl (sub_cons rfl (sub_cons rfl (sub_cons rfl (sub_cons rfl (sub_nil)))))))))))) hS21
            refine ⟨⟨_, rfl, rfl, ?_⟩, trivial⟩
            refine g1 ?_
            exact anyS_weak (st' := ⟨[(52, .val (.int .i16 p)), (53, .ptr 1 0 0), (58, .sl 9 (pls xs)), (6, .ptr 3 0 0), (2, .ptr 0 0 0), (3, .ptr 1 0 0), (4, .ptr 2 0 0)], [(3, ⟨29, 2, true, [[.val (.int .i16 0), .nil]]⟩), (2, ⟨29, 2, true, [[.val (.int .i16 0), .nil]]⟩), (1, ⟨29, 2, true, [[.val (.int .i16 q), .sl 9 (pls ys)]]⟩), (0, ⟨29, 2, true, [[.val (.int .i16 p), .sl 9 (pls xs)]]⟩)], 4⟩) (by exact weak_sl (sub_cons rfl (sub_cons rfl (sub_cons rfl (sub_cons rfl (sub_cons rfl (sub_cons rfl (sub_cons rfl (sub_nil))))))))) hS22
          refine anyS_cut (fuel' := 7) (listed' := #[true, false, true, true, false, true, true, false, false, false, false, false]) (st' := ⟨[(51, .ptr 0 0 0), (54, .val (.int .i16 q)), (56, .own 3), (57, .ptr 0 0 1), (2, .ptr 0 0 0), (3, .ptr 1 0 0), (4, .ptr 2 0 0)], [(3, ⟨47, 9, false, pls []⟩), (2, ⟨29, 2, true, [[.val (.int .i16 0), .nil]]⟩), (1, ⟨29, 2, true, [[.val (.int .i16 q), .sl 9 (pls ys)]]⟩), (0, ⟨29, 2, true, [[.val (.int .i16 p), .sl 9 (pls xs)]]⟩)], 4⟩) ?_ (fun hS31 => ?_)
          · skip
            refine anyS_cons T0_ok hP hm hN (by rfl) [1, 7, 10] (by rfl) rfl ?_
            refine ⟨⟨_, rfl, rfl, ?_⟩, ?_⟩
            · skip
              refine g1 ?_
              refine anyS_floatV T0_ok hP hm hN (by rfl) 4 rfl rfl (by rfl) (by rfl) (by first | trivial | rfl | exact ⟨rfl, rfl⟩ | exact ⟨rfl, rfl, fun _ => rfl, Nat.le_of_ble_eq_true rfl, .inl rfl⟩ | exact ⟨rfl, rfl, fun h => (nomatch h), Nat.le_of_ble_eq_true rfl, .inl rfl⟩ | exact ⟨rfl, rfl, fun _ => rfl, Nat.le_of_ble_eq_true rfl, .inr rfl⟩ | exact ⟨rfl, rfl, fun h => (nomatch h), Nat.le_of_ble_eq_true rfl, .inr rfl⟩ | omega | exact ⟨rfl, by (repeat (first | exact fm_nil | refine fm_cons ⟨rfl, rfl⟩ ?_)), Nat.le_of_ble_eq_true rfl, Nat.le_of_ble_eq_true rfl⟩ | (refine ⟨?_, ?_, ?_, ?_, ?_, ?_, ?_⟩ <;> first | omega | exact Nat.le_of_ble_eq_true rfl) | exact ⟨rfl, by omega, by (try simp only [List.length_map, List.length_set]); omega⟩ | exact ⟨rfl, by omega, by simp only [Int.toNat_natCast]; omega, by omega, Nat.le_of_ble_eq_true rfl, rfl⟩) rfl (by rfl) (by rfl) (by rfl) ?_
              refine g1 ?_
              exact anyS_weak (st' := ⟨[(55, .val (.int .i16 (p + q))), (56, .own 3), (57, .ptr 0 0 1), (2, .ptr 0 0 0), (3, .ptr 1 0 0), (4, .ptr 2 0 0)], [(3, ⟨47, 9, false, pls []⟩), (2, ⟨29, 2, true, [[.val (.int .i16 0), .nil]]⟩), (1, ⟨29, 2, true, [[.val (.int .i16 q), .sl 9 (pls ys)]]⟩), (0, ⟨29, 2, true, [[.val (.int .i16 p), .sl 9 (pls xs)]]⟩)], 4⟩) (by exact weak_sl (sub_cons rfl (sub_cons rfl (sub_cons rfl (sub_cons rfl (sub_cons rfl (sub_cons rfl (sub_nil)))))))) hS11
            refine ⟨⟨_, rfl, rfl, ?_⟩, ?_⟩
            · skip
              refine g1 ?_
              exact anyS_weak (st' := ⟨[(51, .ptr 0 0 0), (54, .val (.int .i16 q)), (56, .own 3), (58, .sl 9 (pls xs)), (2, .ptr 0 0 0), (3, .ptr 1 0 0), (4, .ptr 2 0 0)], [(3, ⟨47, 9, false, pls []⟩), (2, ⟨29, 2, true, [[.val (.int .i16 0), .nil]]⟩), (1, ⟨29, 2, true, [[.val (.int .i16 q), .sl 9 (pls ys)]]⟩), (0, ⟨29, 2, true, [[.val (.int .i16 p), .sl 9 (pls xs)]]⟩)], 4⟩) (by exact weak_sl (sub_cons rfl (sub_cons rfl (sub_cons rfl (sub_cons rfl (sub_cons rfl (sub_cons rfl (sub_cons rfl (sub_nil))))))))) hS23
            refine ⟨⟨_, rfl, rfl, ?_⟩, trivial⟩
            refine g1 ?_
            exact anyS_weak (st' := ⟨[(51, .ptr 0 0 0), (54, .val (.int .i16 q)), (56, .own 3), (57, .ptr 0 0 1), (6, .ptr 4 0 0), (2, .ptr 0 0 0), (3, .ptr 1 0 0), (4, .ptr 2 0 0)], [(4, ⟨29, 2, true, [[.val (.int .i16 0), .nil]]⟩), (3, ⟨47, 9, false, pls []⟩), (2, ⟨29, 2, true, [[.val (.int .i16 0), .nil]]⟩), (1, ⟨29, 2, true, [[.val (.int .i16 q), .sl 9 (pls ys)]]⟩), (0, ⟨29, 2, true, [[.val (.int .i16 p), .sl 9 (pls xs)]]⟩)], 5⟩) (by first | exact weak_sl (sub_cons rfl (sub_cons rfl (sub_cons rfl (sub_cons rfl (sub_cons rfl (sub_cons rfl (sub_cons rfl (sub_cons rfl (sub_nil))))))))) | exact Weak.trans (weak_swap 3 4 (by omega) (by omega) (by omega) (by omega)) (Weak.trans (weak_perm (subhp_cons rfl (subhp_cons rfl (subhp_cons rfl (subhp_cons rfl (subhp_cons rfl (subhp_nil)))))) (subhp_cons rfl (subhp_cons rfl (subhp_cons rfl (subhp_cons rfl (subhp_cons rfl (subhp_nil))))))) (weak_sl (sub_cons rfl (sub_cons rfl (sub_cons rfl (sub_cons rfl (sub_cons rfl (sub_cons rfl (sub_cons rfl (sub_cons rfl (sub_nil)))))))))))) hS24
          refine anyS_cut (fuel' := 7) (listed' := #[true, false, true, true, false, false, true, true, false, false, false, false]) (st' := ⟨[(51, .ptr 0 0 0), (54, .val (.int .i16 q)), (58, .sl 9 (pls xs)), (2, .ptr 0 0 0), (3, .ptr 1 0 0), (4, .ptr 2 0 0)], [(2, ⟨29, 2, true, [[.val (.int .i16 0), .nil]]⟩), (1, ⟨29, 2, true, [[.val (.int .i16 q), .sl 9 (pls ys)]]⟩), (0, ⟨29, 2, true, [[.val (.int .i16 p), .sl 9 (pls xs)]]⟩)], 3⟩) ?_ (fun hS32 => ?_)
          · skip
            refine anyS_cons T0_ok hP hm hN (by rfl) [1, 5, 10] (by rfl) rfl ?_
            refine ⟨⟨_, rfl, rfl, ?_⟩, ?_⟩
            · skip
              refine g1 ?_
              refine anyS_floatV T0_ok hP hm hN (by rfl) 4 rfl rfl (by rfl) (by rfl) (by first | trivial | rfl | exact ⟨rfl, rfl⟩ | exact ⟨rfl, rfl, fun _ => rfl, Nat.le_of_ble_eq_true rfl, .inl rfl⟩ | exact ⟨rfl, rfl, fun h => (nomatch h), Nat.le_of_ble_eq_true rfl, .inl rfl⟩ | exact ⟨rfl, rfl, fun _ => rfl, Nat.le_of_ble_eq_true rfl, .inr rfl⟩ | exact ⟨rfl, rfl, fun h => (nomatch h), Nat.le_of_ble_eq_true rfl, .inr rfl⟩ | omega | exact ⟨rfl, by (repeat (first | exact fm_nil | refine fm_cons ⟨rfl, rfl⟩ ?_)), Nat.le_of_ble_eq_true rfl, Nat.le_of_ble_eq_true rfl⟩ | (refine ⟨?_, ?_, ?_, ?_, ?_, ?_, ?_⟩ <;> first | omega | exact Nat.le_of_ble_eq_true rfl) | exact ⟨rfl, by omega, by (try simp only [List.length_map, List.length_set]); omega⟩ | exact ⟨rfl, by omega, by simp only [Int.toNat_natCast]; omega, by omega, Nat.le_of_ble_eq_true rfl, rfl⟩) rfl (by rfl) (by rfl) (by rfl) ?_
              refine g1 ?_
              exact anyS_weak (st' := ⟨[(55, .val (.int .i16 (p + q))), (58, .sl 9 (pls xs)), (2, .ptr 0 0 0), (3, .ptr 1 0 0), (4, .ptr 2 0 0)], [(2, ⟨29, 2, true, [[.val (.int .i16 0), .nil]]⟩), (1, ⟨29, 2, true, [[.val (.int .i16 q), .sl 9 (pls ys)]]⟩), (0, ⟨29, 2, true, [[.val (.int .i16 p), .sl 9 (pls xs)]]⟩)], 3⟩) (by exact weak_sl (sub_cons rfl (sub_cons rfl (sub_cons rfl (sub_cons rfl (sub_cons rfl (sub_nil))))))) hS12
            refine ⟨⟨_, rfl, rfl, ?_⟩, ?_⟩
            · skip
              refine g1 ?_
              exact anyS_weak (st' := ⟨[(51, .ptr 0 0 0), (54, .val (.int .i16 q)), (56, .own 3), (58, .sl 9 (pls xs)), (2, .ptr 0 0 0), (3, .ptr 1 0 0), (4, .ptr 2 0 0)], [(3, ⟨47, 9, false, pls []⟩), (2, ⟨29, 2, true, [[.val (.int .i16 0), .nil]]⟩), (1, ⟨29, 2, true, [[.val (.int .i16 q), .sl 9 (pls ys)]]⟩), (0, ⟨29, 2, true, [[.val (.int .i16 p), .sl 9 (pls xs)]]⟩)], 4⟩) (by exact weak_sl (sub_cons rfl (sub_cons rfl (sub_cons rfl (sub_cons rfl (sub_cons rfl (sub_cons rfl (sub_cons rfl (sub_nil))))))))) hS23
            refine ⟨⟨_, rfl, rfl, ?_⟩, trivial⟩
            refine g1 ?_
            exact anyS_weak (st' := ⟨[(51, .ptr 0 0 0), (54, .val (.int .i16 q)), (58, .sl 9 (pls xs)), (6, .ptr 3 0 0), (2, .ptr 0 0 0), (3, .ptr 1 0 0), (4, .ptr 2 0 0)], [(3, ⟨29, 2, true, [[.val (.int .i16 0), .nil]]⟩), (2, ⟨29, 2, true, [[.val (.int .i16 0), .nil]]⟩), (1, ⟨29, 2, true, [[.val (.int .i16 q), .sl 9 (pls ys)]]⟩), (0, ⟨29, 2, true, [[.val (.int .i16 p), .sl 9 (pls xs)]]⟩)], 4⟩) (by exact weak_sl (sub_cons rfl (sub_cons rfl (sub_cons rfl (sub_cons rfl (sub_cons rfl (sub_cons rfl (sub_cons rfl (sub_nil))))))))) hS25
          refine anyS_cut (fuel' := 7) (listed' := #[true, false, true, true, false, false, true, false, false, false, true, false]) (st' := ⟨[(51, .ptr 0 0 0), (54, .val (.int .i16 q)), (57, .ptr 0 0 1), (6, .ptr 3 0 0), (2, .ptr 0 0 0), (3, .ptr 1 0 0), (4, .ptr 2 0 0)], [(3, ⟨29, 2, true, [[.val (.int .i16 0), .nil]]⟩), (2, ⟨29, 2, true, [[.val (.int .i16 0), .nil]]⟩), (1, ⟨29, 2, true, [[.val (.int .i16 q), .sl 9 (pls ys)]]⟩), (0, ⟨29, 2, true, [[.val (.int .i16 p), .sl 9 (pls xs)]]⟩)], 4⟩) ?_ (fun hS33 => ?_)
          · skip
            refine anyS_cons T0_ok hP hm hN (by rfl) [1, 5, 7] (by rfl) rfl ?_
            refine ⟨⟨_, rfl, rfl, ?_⟩, ?_⟩
            · skip
              refine g1 ?_
              refine anyS_floatV T0_ok hP hm hN (by rfl) 4 rfl rfl (by rfl) (by rfl) (by first | trivial | rfl | exact ⟨rfl, rfl⟩ | exact ⟨rfl, rfl, fun _ => rfl, Nat.le_of_ble_eq_true rfl, .inl rfl⟩ | exact ⟨rfl, rfl, fun h => (nomatch h), Nat.le_of_ble_eq_true rfl, .inl rfl⟩ | exact ⟨rfl, rfl, fun _ => rfl, Nat.le_of_ble_eq_true rfl, .inr rfl⟩ | exact ⟨rfl, rfl, fun h => (nomatch h), Nat.le_of_ble_eq_true rfl, .inr rfl⟩ | omega | exact ⟨rfl, by (repeat (first | exact fm_nil | refine fm_cons ⟨rfl, rfl⟩ ?_)), Nat.le_of_ble_eq_true rfl, Nat.le_of_ble_eq_true rfl⟩ | (refine ⟨?_, ?_, ?_, ?_, ?_, ?_, ?_⟩ <;> first | omega | exact Nat.le_of_ble_eq_true rfl) | exact ⟨rfl, by omega, by (try simp only [List.length_map, List.length_set]); omega⟩ | exact ⟨rfl, by omega, by simp only [Int.toNat_natCast]; omega, by omega, Nat.le_of_ble_eq_true rfl, rfl⟩) rfl (by rfl) (by rfl) (by rfl) ?_
              refine g1 ?_
              exact anyS_weak (st' := ⟨[(55, .val (.int .i16 (p + q))), (57, .ptr 0 0 1), (6, .ptr 3 0 0), (2, .ptr 0 0 0), (3, .ptr 1 0 0), (4, .ptr 2 0 0)], [(3, ⟨29, 2, true, [[.val (.int .i16 0), .nil]]⟩), (2, ⟨29, 2, true, [[.val (.int .i16 0), .nil]]⟩), (1, ⟨29, 2, true, [[.val (.int .i16 q), .sl 9 (pls ys)]]⟩), (0, ⟨29, 2, true, [[.val (.int .i16 p), .sl 9 (pls xs)]]⟩)], 4⟩) (by exact weak_sl (sub_cons rfl (sub_cons rfl (sub_cons rfl (sub_cons rfl (sub_cons rfl (sub_cons rfl (sub_nil)))))))) hS13
            refine ⟨⟨_, rfl, rfl, ?_⟩, ?_⟩
            · skip
              refine g1 ?_
              exact anyS_weak (st' := ⟨[(51, .ptr 0 0 0), (54, .val (.int .i16 q)), (56, .own 3), (57, .ptr 0 0 1), (6, .ptr 4 0 0), (2, .ptr 0 0 0), (3, .ptr 1 0 0), (4, .ptr 2 0 0)], [(4, ⟨29, 2, true, [[.val (.int .i16 0), .nil]]⟩), (3, ⟨47, 9, false, pls []⟩), (2, ⟨29, 2, true, [[.val (.int .i16 0), .nil]]⟩), (1, ⟨29, 2, true, [[.val (.int .i16 q), .sl 9 (pls ys)]]⟩), (0, ⟨29, 2, true, [[.val (.int .i16 p), .sl 9 (pls xs)]]⟩)], 5⟩) (by first | exact weak_sl (sub_cons rfl (sub_cons rfl (sub_cons rfl (sub_cons rfl (sub_cons rfl (sub_cons rfl (sub_cons rfl (sub_cons rfl (sub_nil))))))))) | exact Weak.trans (weak_swap 3 4 (by omega) (by omega) (by omega) (by omega)) (Weak.trans (weak_perm (subhp_cons rfl (subhp_cons rfl (subhp_cons rfl (subhp_cons rfl (subhp_cons rfl (subhp_nil)))))) (subhp_cons rfl (subhp_cons rfl (subhp_cons rfl (subhp_cons rfl (subhp_cons rfl (subhp_nil))))))) (weak_sl (sub_cons rfl (sub_cons rfl (sub_cons rfl (sub_cons rfl (sub_cons rfl (sub_cons rfl (sub_cons rfl (sub_cons rfl (sub_nil)))))))))))) hS24
            refine ⟨⟨_, rfl, rfl, ?_⟩, trivial⟩
            refine g1 ?_
            exact anyS_weak (st' := ⟨[(51, .ptr 0 0 0), (54, .val (.int .i16 q)), (58, .sl 9 (pls xs)), (6, .ptr 3 0 0), (2, .ptr 0 0 0), (3, .ptr 1 0 0), (4, .ptr 2 0 0)], [(3, ⟨29, 2, true, [[.val (.int .i16 0), .nil]]⟩), (2, ⟨29, 2, true, [[.val (.int .i16 0), .nil]]⟩), (1, ⟨29, 2, true, [[.val (.int .i16 q), .sl 9 (pls ys)]]⟩), (0, ⟨29, 2, true, [[.val (.int .i16 p), .sl 9 (pls xs)]]⟩)], 4⟩) (by exact weak_sl (sub_cons rfl (sub_cons rfl (sub_cons rfl (sub_cons rfl (sub_cons rfl (sub_cons rfl (sub_cons rfl (sub_nil))))))))) hS25
          refine anyS_cut (fuel' := 7) (listed' := #[true, false, true, false, false, true, true, true, false, false, false, false]) (st' := ⟨[(51, .ptr 0 0 0), (53, .ptr 1 0 0), (56, .own 3), (58, .sl 9 (pls xs)), (2, .ptr 0 0 0), (3, .ptr 1 0 0), (4, .ptr 2 0 0)], [(3, ⟨47, 9, false, pls []⟩), (2, ⟨29, 2, true, [[.val (.int .i16 0), .nil]]⟩), (1, ⟨29, 2, true, [[.val (.int .i16 q), .sl 9 (pls ys)]]⟩), (0, ⟨29, 2, true, [[.val (.int .i16 p), .sl 9 (pls xs)]]⟩)], 4⟩) ?_ (fun hS34 => ?_)
          · skip
            refine anyS_cons T0_ok hP hm hN (by rfl) [1, 3, 8, 10] (by rfl) rfl ?_
            refine ⟨⟨_, rfl, rfl, ?_⟩, ?_⟩
            · skip
              refine g1 ?_
              exact anyS_weak (st' := ⟨[(52, .val (.int .i16 p)), (53, .ptr 1 0 0), (56, .own 3), (58, .sl 9 (pls xs)), (2, .ptr 0 0 0), (3, .ptr 1 0 0), (4, .ptr 2 0 0)], [(3, ⟨47, 9, false, pls []⟩), (2, ⟨29, 2, true, [[.val (.int .i16 0), .nil]]⟩), (1, ⟨29, 2, true, [[.val (.int .i16 q), .sl 9 (pls ys)]]⟩), (0, ⟨29, 2, true, [[.val (.int .i16 p), .sl 9 (pls xs)]]⟩)], 4⟩) (by exact weak_sl (sub_cons rfl (sub_cons rfl (sub_cons rfl (sub_cons rfl (sub_cons rfl (sub_cons rfl (sub_cons rfl (sub_nil))))))))) hS20
            refine ⟨⟨_, rfl, rfl, ?_⟩, ?_⟩
            · skip
              refine g1 ?_
              exact anyS_weak (st' := ⟨[(51, .ptr 0 0 0), (54, .val (.int .i16 q)), (56, .own 3), (58, .sl 9 (pls xs)), (2, .ptr 0 0 0), (3, .ptr 1 0 0), (4, .ptr 2 0 0)], [(3, ⟨47, 9, false, pls []⟩), (2, ⟨29, 2, true, [[.val (.int .i16 0), .nil]]⟩), (1, ⟨29, 2, true, [[.val (.int .i16 q), .sl 9 (pls ys)]]⟩), (0, ⟨29, 2, true, [[.val (.int .i16 p), .sl 9 (pls xs)]]⟩)], 4⟩) (by exact weak_sl (sub_cons rfl (sub_cons rfl (sub_cons rfl (sub_cons rfl (sub_cons rfl (sub_cons rfl (sub_cons rfl (sub_nil))))))))) hS23
            refine ⟨⟨_, rfl, rfl, ?_⟩, ?_⟩
            · skip
              refine ga1 ?_
              exact anyS_weak (st' := ⟨[(51, .ptr 0 0 0), (53, .ptr 1 0 0), (59, .own 3), (2, .ptr 0 0 0), (3, .ptr 1 0 0), (4, .ptr 2 0 0)], [(3, ⟨47, 9, false, pls xs⟩), (2, ⟨29, 2, true, [[.val (.int .i16 0), .nil]]⟩), (1, ⟨29, 2, true, [[.val (.int .i16 q), .sl 9 (pls ys)]]⟩), (0, ⟨29, 2, true, [[.val (.int .i16 p), .sl 9 (pls xs)]]⟩)], 4⟩) (by exact weak_sl (sub_cons rfl (sub_cons rfl (sub_cons rfl (sub_cons rfl (sub_cons rfl (sub_cons rfl (sub_nil)))))))) hS26
            refine ⟨⟨_, rfl, rfl, ?_⟩, trivial⟩
            refine g1 ?_
            exact anyS_weak (st' := ⟨[(51, .ptr 0 0 0), (53, .ptr 1 0 0), (56, .own 3), (58, .sl 9 (pls xs)), (6, .ptr 4 0 0), (2, .ptr 0 0 0), (3, .ptr 1 0 0), (4, .ptr 2 0 0)], [(4, ⟨29, 2, true, [[.val (.int .i16 0), .nil]]⟩), (3, ⟨47, 9, false, pls []⟩), (2, ⟨29, 2, true, [[.val (.int .i16 0), .nil]]⟩), (1, ⟨29, 2, true, [[.val (.int .i16 q), .sl 9 (pls ys)]]⟩), (0, ⟨29, 2, true, [[.val (.int .i16 p), .sl 9 (pls xs)]]⟩)], 5⟩) (by first | exact weak_sl (sub_cons rfl (sub_cons rfl (sub_cons rfl (sub_cons rfl (sub_cons rfl (sub_cons rfl (sub_cons rfl (sub_cons rfl (sub_nil))))))))) | exact Weak.trans (weak_swap 3 4 (by omega) (by omega) (by omega) (by omega)) (Weak.trans (weak_perm (subhp_cons rfl (subhp_cons rfl (subhp_cons rfl (subhp_cons rfl (subhp_cons rfl (subhp_nil)))))) (subhp_cons rfl (subhp_cons rfl (subhp_cons rfl (subhp_cons rfl (subhp_cons rfl (subhp_nil))))))) (weak_sl (sub_cons rfl (sub_cons rfl (sub_cons rfl (sub_cons rfl (sub_cons rfl (sub_cons rfl (sub_cons rfl (sub_cons rfl (sub_nil)))))))))))) hS27
          refine anyS_cut (fuel' := 7) (listed' := #[true, false, true, false, false, true, true, false, false, false, true, false]) (st' := ⟨[(51, .ptr 0 0 0), (53, .ptr 1 0 0), (56, .own 3), (57, .ptr 0 0 1), (6, .ptr 4 0 0), (2, .ptr 0 0 0), (3, .ptr 1 0 0), (4, .ptr 2 0 0)], [(4, ⟨29, 2, true, [[.val (.int .i16 0), .nil]]⟩), (3, ⟨47, 9, false, pls []⟩), (2, ⟨29, 2, true, [[.val (.int .i16 0), .nil]]⟩), (1, ⟨29, 2, true, [[.val (.int .i16 q), .sl 9 (pls ys)]]⟩), (0, ⟨29, 2, true, [[.val (.int .i16 p), .sl 9 (pls xs)]]⟩)], 5⟩) ?_ (fun hS35 => ?_)
          · skip
            refine anyS_cons T0_ok hP hm hN (by rfl) [1, 3, 7] (by rfl) rfl ?_
            refine ⟨⟨_, rfl, rfl, ?_⟩, ?_⟩
            · skip
              refine g1 ?_
              exact anyS_weak (st' := ⟨[(52, .val (.int .i16 p)), (53, .ptr 1 0 0), (56, .own 3), (57, .ptr 0 0 1), (6, .ptr 4 0 0), (2, .ptr 0 0 0), (3, .ptr 1 0 0), (4, .ptr 2 0 0)], [(4, ⟨29, 2, true, [[.val (.int .i16 0), .nil]]⟩), (3, ⟨47, 9, false, pls []⟩), (2, ⟨29, 2, true, [[.val (.int .i16 0), .nil]]⟩), (1, ⟨29, 2, true, [[.val (.int .i16 q), .sl 9 (pls ys)]]⟩), (0, ⟨29, 2, true, [[.val (.int .i16 p), .sl 9 (pls xs)]]⟩)], 5⟩) (by first | exact weak_sl (sub_cons rfl (sub_cons rfl (sub_cons rfl (sub_cons rfl (sub_cons rfl (sub_cons rfl (sub_cons rfl (sub_cons rfl (sub_nil))))))))) | exact Weak.trans (weak_swap 3 4 (by omega) (by omega) (by omega) (by omega)) (Weak.trans (weak_perm (subhp_cons rfl (subhp_cons rfl (subhp_cons rfl (subhp_cons rfl (subhp_cons rfl (subhp_nil)))))) (subhp_cons rfl (subhp_cons rfl (subhp_cons rfl (subhp_cons rfl (subhp_cons rfl (subhp_nil))))))) (weak_sl (sub_cons rfl (sub_cons rfl (sub_cons rfl (sub_cons rfl (sub_cons rfl (sub_cons rfl (sub_cons rfl (sub_cons rfl (sub_nil)))))))))))) hS21
            refine ⟨⟨_, rfl, rfl, ?_⟩, ?_⟩
            · skip
              refine g1 ?_
              exact anyS_weak (st' := ⟨[(51, .ptr 0 0 0), (54, .val (.int .i16 q)), (56, .own 3), (57, .ptr 0 0 1), (6, .ptr 4 0 0), (2, .ptr 0 0 0), (3, .ptr 1 0 0), (4, .ptr 2 0 0)], [(4, ⟨29, 2, true, [[.val (.int .i16 0), .nil]]⟩), (3, ⟨47, 9, false, pls []⟩), (2, ⟨29, 2, true, [[.val (.int .i16 0), .nil]]⟩), (1, ⟨29, 2, true, [[.val (.int .i16 q), .sl 9 (pls ys)]]⟩), (0, ⟨29, 2, true, [[.val (.int .i16 p), .sl 9 (pls xs)]]⟩)], 5⟩) (by first | exact weak_sl (sub_cons rfl (sub_cons rfl (sub_cons rfl (sub_cons rfl (sub_cons rfl (sub_cons rfl (sub_cons rfl (sub_cons rfl (sub_nil))))))))) | exact Weak.trans (weak_swap 3 4 (by omega) (by omega) (by omega) (by omega)) (Weak.trans (weak_perm (subhp_cons rfl (subhp_cons rfl (subhp_cons rfl (subhp_cons rfl (subhp_cons rfl (subhp_nil)))))) (subhp_cons rfl (subhp_cons rfl (subhp_cons rfl (subhp_cons rfl (subhp_cons rfl (subhp_nil))))))) (weak_sl (sub_cons rfl (sub_cons rfl (sub_cons rfl (sub_cons rfl (sub_cons rfl (sub_cons rfl (sub_cons rfl (sub_cons rfl (sub_nil)))))))))))) hS24
            refine ⟨⟨_, rfl, rfl, ?_⟩, trivial⟩
            refine g1 ?_
            exact anyS_weak (st' := ⟨[(51, .ptr 0 0 0), (53, .ptr 1 0 0), (56, .own 3), (58, .sl 9 (pls xs)), (6, .ptr 4 0 0), (2, .ptr 0 0 0), (3, .ptr 1 0 0), (4, .ptr 2 0 0)], [(4, ⟨29, 2, true, [[.val (.int .i16 0), .nil]]⟩), (3, ⟨47, 9, false, pls []⟩), (2, ⟨29, 2, true, [[.val (.int .i16 0), .nil]]⟩), (1, ⟨29, 2, true, [[.val (.int .i16 q), .sl 9 (pls ys)]]⟩), (0, ⟨29, 2, true, [[.val (.int .i16 p), .sl 9 (pls xs)]]⟩)], 5⟩) (by first | exact weak_sl (sub_cons rfl (sub_cons rfl (sub_cons rfl (sub_cons rfl (sub_cons rfl (sub_cons rfl (sub_cons rfl (sub_cons rfl (sub_nil))))))))) | exact Weak.trans (weak_swap 3 4 (by omega) (by omega) (by omega) (by omega)) (Weak.trans (weak_perm (subhp_cons rfl (subhp_cons rfl (subhp_cons rfl (subhp_cons rfl (subhp_cons rfl (subhp_nil)))))) (subhp_cons rfl (subhp_cons rfl (subhp_cons rfl (subhp_cons rfl (subhp_cons rfl (subhp_nil))))))) (weak_sl (sub_cons rfl (sub_cons rfl (sub_cons rfl (sub_cons rfl (sub_cons rfl (sub_cons rfl (sub_cons rfl (sub_cons rfl (sub_nil)))))))))))) hS27
          refine anyS_cut (fuel' := 7) (listed' := #[true, false, true, false, false, false, true, true, false, false, true, false]) (st' := ⟨[(51, .ptr 0 0 0), (53, .ptr 1 0 0), (58, .sl 9 (pls xs)), (6, .ptr 3 0 0), (2, .ptr 0 0 0), (3, .ptr 1 0 0), (4, .ptr 2 0 0)], [(3, ⟨29, 2, true, [[.val (.int .i16 0), .nil]]⟩), (2, ⟨29, 2, true, [[.val (.int .i16 0), .nil]]⟩), (1, ⟨29, 2, true, [[.val (.int .i16 q), .sl 9 (pls ys)]]⟩), (0, ⟨29, 2, true, [[.val (.int .i16 p), .sl 9 (pls xs)]]⟩)], 4⟩) ?_ (fun hS36 => ?_)
          · skip
            refine anyS_cons T0_ok hP hm hN (by rfl) [1, 3, 5] (by rfl) rfl ?_
            refine ⟨⟨_, rfl, rfl, ?_⟩, ?_⟩
            · skip
              refine g1 ?_
              exact anyS_weak (st' := ⟨[(52, .val (.int .i16 p)), (53, .ptr 1 0 0), (58, .sl 9 (pls xs)), (6, .ptr 3 0 0), (2, .ptr 0 0 0), (3, .ptr 1 0 0), (4, .ptr 2 0 0)], [(3, ⟨29, 2, true, [[.val (.int .i16 0), .nil]]⟩), (2, ⟨29, 2, true, [[.val (.int .i16 0), .nil]]⟩), (1, ⟨29, 2, true, [[.val (.int .i16 q), .sl 9 (pls ys)]]⟩), (0, ⟨29, 2, true, [[.val (.int .i16 p), .sl 9 (pls xs)]]⟩)], 4⟩) (by exact weak_sl (sub_cons rfl (sub_cons rfl (sub_cons rfl (sub_cons rfl (sub_cons rfl (sub_cons rfl (sub_cons rfl (sub_nil))))))))) hS22
            refine ⟨⟨_, rfl, rfl, ?_⟩, ?_⟩
            · skip
              refine g1 ?_
              exact anyS_weak (st' := ⟨[(51, .ptr 0 0 0), (54, .val (.int .i16 q)), (58, .sl 9 (pls xs)), (6, .ptr 3 0 0), (2, .ptr 0 0 0), (3, .ptr 1 0 0), (4, .ptr 2 0 0)], [(3, ⟨29, 2, true, [[.val (.int .i16 0), .nil]]⟩), (2, ⟨29, 2, true, [[.val (.int .i16 0), .nil]]⟩), (1, ⟨29, 2, true, [[.val (.int .i16 q), .sl 9 (pls ys)]]⟩), (0, ⟨29, 2, true, [[.val (.int .i16 p), .sl 9 (pls xs)]]⟩)], 4⟩) (by exact weak_sl (sub_cons rfl (sub_cons rfl (sub_cons rfl (sub_cons rfl (sub_cons rfl (sub_cons rfl (sub_cons rfl (sub_nil))))))))) hS25
            refine ⟨⟨_, rfl, rfl, ?_⟩, trivial⟩
            refine g1 ?_
            exact anyS_weak (st' := ⟨[(51, .ptr 0 0 0), (53, .ptr 1 0 0), (56, .own 3), (58, .sl 9 (pls xs)), (6, .ptr 4 0 0), (2, .ptr 0 0 0), (3, .ptr 1 0 0), (4, .ptr 2 0 0)], [(4, ⟨29, 2, true, [[.val (.int .i16 0), .nil]]⟩), (3, ⟨47, 9, false, pls []⟩), (2, ⟨29, 2, true, [[.val (.int .i16 0), .nil]]⟩), (1, ⟨29, 2, true, [[.val (.int .i16 q), .sl 9 (pls ys)]]⟩), (0, ⟨29, 2, true, [[.val (.int .i16 p), .sl 9 (pls xs)]]⟩)], 5⟩) (by first | exact weak_sl (sub_cons rfl (sub_cons rfl (sub_cons rfl (sub_cons rfl (sub_cons rfl (sub_cons rfl (sub_cons rfl (sub_cons rfl (sub_nil))))))))) | exact Weak.trans (weak_swap 3 4 (by omega) (by omega) (by omega) (by omega)) (Weak.trans (weak_perm (subhp_cons rfl (subhp_cons rfl (subhp_cons rfl (subhp_cons rfl (subhp_cons rfl (subhp_nil)))))) (subhp_cons rfl (subhp_cons rfl (subhp_cons rfl (subhp_cons rfl (subhp_cons rfl (subhp_nil))))))) (weak_sl (sub_cons rfl (sub_cons rfl (sub_cons rfl (sub_cons rfl (sub_cons rfl (sub_cons rfl (sub_cons rfl (sub_cons rfl (sub_nil)))))))))))) hS27
          refine anyS_cut (fuel' := 8) (listed' := #[true, true, true, false, false, false, true, false, false, false, false, false]) (st' := ⟨[(52, .val (.int .i16 p)), (53, .ptr 1 0 0), (57, .ptr 0 0 1), (2, .ptr 0 0 0), (3, .ptr 1 0 0), (4, .ptr 2 0 0)], [(2, ⟨29, 2, true, [[.val (.int .i16 0), .nil]]⟩), (1, ⟨29, 2, true, [[.val (.int .i16 q), .sl 9 (pls ys)]]⟩), (0, ⟨29, 2, true, [[.val (.int .i16 p), .sl 9 (pls xs)]]⟩)], 3⟩) ?_ (fun hS37 => ?_)
          · skip
            refine anyS_cons T0_ok hP hm hN (by rfl) [3, 5, 7, 10] (by rfl) rfl ?_
            refine ⟨⟨_, rfl, rfl, ?_⟩, ?_⟩
            · skip
              refine g1 ?_
              refine anyS_floatV T0_ok hP hm hN (by rfl) 4 rfl rfl (by rfl) (by rfl) (by first | trivial | rfl | exact ⟨rfl, rfl⟩ | exact ⟨rfl, rfl, fun _ => rfl, Nat.le_of_ble_eq_true rfl, .inl rfl⟩ | exact ⟨rfl, rfl, fun h => (nomatch h), Nat.le_of_ble_eq_true rfl, .inl rfl⟩ | exact ⟨rfl, rfl, fun _ => rfl, Nat.le_of_ble_eq_true rfl, .inr rfl⟩ | exact ⟨rfl, rfl, fun h => (nomatch h), Nat.le_of_ble_eq_true rfl, .inr rfl⟩ | omega | exact ⟨rfl, by (repeat (first | exact fm_nil | refine fm_cons ⟨rfl, rfl⟩ ?_)), Nat.le_of_ble_eq_true rfl, Nat.le_of_ble_eq_true rfl⟩ | (refine ⟨?_, ?_, ?_, ?_, ?_, ?_, ?_⟩ <;> first | omega | exact Nat.le_of_ble_eq_true rfl) | exact ⟨rfl, by omega, by (try simp only [List.length_map, List.length_set]); omega⟩ | exact ⟨rfl, by omega, by simp only [Int.toNat_natCast]; omega, by omega, Nat.le_of_ble_eq_true rfl, rfl⟩) rfl (by rfl) (by rfl) (by rfl) ?_
              refine g1 ?_
              exact anyS_weak (st' := ⟨[(55, .val (.int .i16 (p + q))), (57, .ptr 0 0 1), (2, .ptr 0 0 0), (3, .ptr 1 0 0), (4, .ptr 2 0 0)], [(2, ⟨29, 2, true, [[.val (.int .i16 0), .nil]]⟩), (1, ⟨29, 2, true, [[.val (.int .i16 q), .sl 9 (pls ys)]]⟩), (0, ⟨29, 2, true, [[.val (.int .i16 p), .sl 9 (pls xs)]]⟩)], 3⟩) (by exact weak_sl (sub_cons rfl (sub_cons rfl (sub_cons rfl (sub_cons rfl (sub_cons rfl (sub_nil))))))) hS19
            refine ⟨⟨_, rfl, rfl, ?_⟩, ?_⟩
            · skip
              refine g1 ?_
              exact anyS_weak (st' := ⟨[(52, .val (.int .i16 p)), (53, .ptr 1 0 0), (56, .own 3), (57, .ptr 0 0 1), (2, .ptr 0 0 0), (3, .ptr 1 0 0), (4, .ptr 2 0 0)], [(3, ⟨47, 9, false, pls []⟩), (2, ⟨29, 2, true, [[.val (.int .i16 0), .nil]]⟩), (1, ⟨29, 2, true, [[.val (.int .i16 q), .sl 9 (pls ys)]]⟩), (0, ⟨29, 2, true, [[.val (.int .i16 p), .sl 9 (pls xs)]]⟩)], 4⟩) (by exact weak_sl (sub_cons rfl (sub_cons rfl (sub_cons rfl (sub_cons rfl (sub_cons rfl (sub_cons rfl (sub_cons rfl (sub_nil))))))))) hS28
            refine ⟨⟨_, rfl, rfl, ?_⟩, ?_⟩
            · skip
              refine g1 ?_
              exact anyS_weak (st' := ⟨[(52, .val (.int .i16 p)), (53, .ptr 1 0 0), (58, .sl 9 (pls xs)), (2, .ptr 0 0 0), (3, .ptr 1 0 0), (4, .ptr 2 0 0)], [(2, ⟨29, 2, true, [[.val (.int .i16 0), .nil]]⟩), (1, ⟨29, 2, true, [[.val (.int .i16 q), .sl 9 (pls ys)]]⟩), (0, ⟨29, 2, true, [[.val (.int .i16 p), .sl 9 (pls xs)]]⟩)], 3⟩) (by exact weak_sl (sub_cons rfl (sub_cons rfl (sub_cons rfl (sub_cons rfl (sub_cons rfl (sub_cons rfl (sub_nil)))))))) hS29
            refine ⟨⟨_, rfl, rfl, ?_⟩, trivial⟩
            refine g1 ?_
            exact anyS_weak (st' := ⟨[(52, .val (.int .i16 p)), (53, .ptr 1 0 0), (57, .ptr 0 0 1), (6, .ptr 3 0 0), (2, .ptr 0 0 0), (3, .ptr 1 0 0), (4, .ptr 2 0 0)], [(3, ⟨29, 2, true, [[.val (.int .i16 0), .nil]]⟩), (2, ⟨29, 2, true, [[.val (.int .i16 0), .nil]]⟩), (1, ⟨29, 2, true, [[.val (.int .i16 q), .sl 9 (pls ys)]]⟩), (0, ⟨29, 2, true, [[.val (.int .i16 p), .sl 9 (pls xs)]]⟩)], 4⟩) (by exact weak_sl (sub_cons rfl (sub_cons rfl (sub_cons rfl (sub_cons rfl (sub_cons rfl (sub_cons rfl (sub_cons rfl (sub_nil))))))))) hS30
          refine anyS_cut (fuel' := 8) (listed' := #[true, false, true, true, false, false, true, false, false, false, false, false]) (st' := ⟨[(51, .ptr 0 0 0), (54, .val (.int .i16 q)), (57, .ptr 0 0 1), (2, .ptr 0 0 0), (3, .ptr 1 0 0), (4, .ptr 2 0 0)], [(2, ⟨29, 2, true, [[.val (.int .i16 0), .nil]]⟩), (1, ⟨29, 2, true, [[.val (.int .i16 q), .sl 9 (pls ys)]]⟩), (0, ⟨29, 2, true, [[.val (.int .i16 p), .sl 9 (pls xs)]]⟩)], 3⟩) ?_ (fun hS38 => ?_)
          · skip
            refine anyS_cons T0_ok hP hm hN (by rfl) [1, 5, 7, 10] (by rfl) rfl ?_
            refine ⟨⟨_, rfl, rfl, ?_⟩, ?_⟩
            · skip
              refine g1 ?_
              refine anyS_floatV T0_ok hP hm hN (by rfl) 4 rfl rfl (by rfl) (by rfl) (by first | trivial | rfl | exact ⟨rfl, rfl⟩ | exact ⟨rfl, rfl, fun _ => rfl, Nat.le_of_ble_eq_true rfl, .inl rfl⟩ | exact ⟨rfl, rfl, fun h => (nomatch h), Nat.le_of_ble_eq_true rfl, .inl rfl⟩ | exact ⟨rfl, rfl, fun _ => rfl, Nat.le_of_ble_eq_true rfl, .inr rfl⟩ | exact ⟨rfl, rfl, fun h => (nomatch h), Nat.le_of_ble_eq_true rfl, .inr rfl⟩ | omega | exact ⟨rfl, by (repeat (first | exact fm_nil | refine fm_cons ⟨rfl, rfl⟩ ?_)), Nat.le_of_ble_eq_true rfl, Nat.le_of_ble_eq_true rfl⟩ | (refine ⟨?_, ?_, ?_, ?_, ?_, ?_, ?_⟩ <;> first | omega | exact Nat.le_of_ble_eq_true rfl) | exact ⟨rfl, by omega, by (try simp only [List.length_map, List.length_set]); omega⟩ | exact ⟨rfl, by omega, by simp only [Int.toNat_natCast]; omega, by omega, Nat.le_of_ble_eq_true rfl, rfl⟩) rfl (by rfl) (by rfl) (by rfl) ?_
              refine g1 ?_
              exact anyS_weak (st' := ⟨[(55, .val (.int .i16 (p + q))), (57, .ptr 0 0 1), (2, .ptr 0 0 0), (3, .ptr 1 0 0), (4, .ptr 2 0 0)], [(2, ⟨29, 2, true, [[.val (.int .i16 0), .nil]]⟩), (1, ⟨29, 2, true, [[.val (.int .i16 q), .sl 9 (pls ys)]]⟩), (0, ⟨29, 2, true, [[.val (.int .i16 p), .sl 9 (pls xs)]]⟩)], 3⟩) (by exact weak_sl (sub_cons rfl (sub_cons rfl (sub_cons rfl (sub_cons rfl (sub_cons rfl (sub_nil))))))) hS19
            refine ⟨⟨_, rfl, rfl, ?_⟩, ?_⟩
            · skip
              refine g1 ?_
              exact anyS_weak (st' := ⟨[(51, .ptr 0 0 0), (54, .val (.int .i16 q)), (56, .own 3), (57, .ptr 0 0 1), (2, .ptr 0 0 0), (3, .ptr 1 0 0), (4, .ptr 2 0 0)], [(3, ⟨47, 9, false, pls []⟩), (2, ⟨29, 2, true, [[.val (.int .i16 0), .nil]]⟩), (1, ⟨29, 2, true, [[.val (.int .i16 q), .sl 9 (pls ys)]]⟩), (0, ⟨29, 2, true, [[.val (.int .i16 p), .sl 9 (pls xs)]]⟩)], 4⟩) (by exact weak_sl (sub_cons rfl (sub_cons rfl (sub_cons rfl (sub_cons rfl (sub_cons rfl (sub_cons rfl (sub_cons rfl (sub_nil))))))))) hS31
            refine ⟨⟨_, rfl, rfl, ?_⟩, ?_⟩
            · skip
              refine g1 ?_
              exact anyS_weak (st' := ⟨[(51, .ptr 0 0 0), (54, .val (.int .i16 q)), (58, .sl 9 (pls xs)), (2, .ptr 0 0 0), (3, .ptr 1 0 0), (4, .ptr 2 0 0)], [(2, ⟨29, 2, true, [[.val (.int .i16 0), .nil]]⟩), (1, ⟨29, 2, true, [[.val (.int .i16 q), .sl 9 (pls ys)]]⟩), (0, ⟨29, 2, true, [[.val (.int .i16 p), .sl 9 (pls xs)]]⟩)], 3⟩) (by exact weak_sl (sub_cons rfl (sub_cons rfl (sub_cons rfl (sub_cons rfl (sub_cons rfl (sub_cons rfl (sub_nil)))))))) hS32
            refine ⟨⟨_, rfl, rfl, ?_⟩, trivial⟩
            refine g1 ?_
            exact anyS_weak (st' := ⟨[(51, .ptr 0 0 0), (54, .val (.int .i16 q)), (57, .ptr 0 0 1), (6, .ptr 3 0 0), (2, .ptr 0 0 0), (3, .ptr 1 0 0), (4, .ptr 2 0 0)], [(3, ⟨29, 2, true, [[.val (.int .i16 0), .nil]]⟩), (2, ⟨29, 2, true, [[.val (.int .i16 0), .nil]]⟩), (1, ⟨29, 2, true, [[.val (.int .i16 q), .sl 9 (pls ys)]]⟩), (0, ⟨29, 2, true, [[.val (.int .i16 p), .sl 9 (pls xs)]]⟩)], 4⟩) (by exact weak_sl (sub_cons rfl (sub_cons rfl (sub_cons rfl (sub_cons rfl (sub_cons rfl (sub_cons rfl (sub_cons rfl (sub_nil))))))))) hS33
          refine anyS_cut (fuel' := 8) (listed' := #[true, false, true, false, false, true, true, false, false, false, false, false]) (st' := ⟨[(51, .ptr 0 0 0), (53, .ptr 1 0 0), (56, .own 3), (57, .ptr 0 0 1), (2, .ptr 0 0 0), (3, .ptr 1 0 0), (4, .ptr 2 0 0)], [(3, ⟨47, 9, false, pls []⟩), (2, ⟨29, 2, true, [[.val (.int .i16 0), .nil]]⟩), (1, ⟨29, 2, true, [[.val (.int .i16 q), .sl 9 (pls ys)]]⟩), (0, ⟨29, 2, true, [[.val (.int .i16 p), .sl 9 (pls xs)]]⟩)], 4⟩) ?_ (fun hS39 => ?_)
          · skip
            refine anyS_cons T0_ok hP hm hN (by rfl) [1, 3, 7, 10] (by rfl) rfl ?_
            refine ⟨⟨_, rfl, rfl, ?_⟩, ?_⟩
            · skip
              refine g1 ?_
              exact anyS_weak (st' := ⟨[(52, .val (.int .i16 p)), (53, .ptr 1 0 0), (56, .own 3), (57, .ptr 0 0 1), (2, .ptr 0 0 0), (3, .ptr 1 0 0), (4, .ptr 2 0 0)], [(3, ⟨47, 9, false, pls []⟩), (2, ⟨29, 2, true, [[.val (.int .i16 0), .nil]]⟩), (1, ⟨29, 2, true, [[.val (.int .i16 q), .sl 9 (pls ys)]]⟩), (0, ⟨29, 2, true, [[.val (.int .i16 p), .sl 9 (pls xs)]]⟩)], 4⟩) (by exact weak_sl (sub_cons rfl (sub_cons rfl (sub_cons rfl (sub_cons rfl (sub_cons rfl (sub_cons rfl (sub_cons rfl (sub_nil))))))))) hS28
            refine ⟨⟨_, rfl, rfl, ?_⟩, ?_⟩
            · skip
              refine g1 ?_
              exact anyS_weak (st' := ⟨[(51, .ptr 0 0 0), (54, .val (.int .i16 q)), (56, .own 3), (57, .ptr 0 0 1), (2, .ptr 0 0 0), (3, .ptr 1 0 0), (4, .ptr 2 0 0)], [(3, ⟨47, 9, false, pls []⟩), (2, ⟨29, 2, true, [[.val (.int .i16 0), .nil]]⟩), (1, ⟨29, 2, true, [[.val (.int .i16 q), .sl 9 (pls ys)]]⟩), (0, ⟨29, 2, true, [[.val (.int .i16 p), .sl 9 (pls xs)]]⟩)], 4⟩) (by exact weak_sl (sub_cons rfl (sub_cons rfl (sub_cons rfl (sub_cons rfl (sub_cons rfl (sub_cons rfl (sub_cons rfl (sub_nil))))))))) hS31
            refine ⟨⟨_, rfl, rfl, ?_⟩, ?_⟩
            · skip
              refine g1 ?_
              exact anyS_weak (st' := ⟨[(51, .ptr 0 0 0), (53, .ptr 1 0 0), (56, .own 3), (58, .sl 9 (pls xs)), (2, .ptr 0 0 0), (3, .ptr 1 0 0), (4, .ptr 2 0 0)], [(3, ⟨47, 9, false, pls []⟩), (2, ⟨29, 2, true, [[.val (.int .i16 0), .nil]]⟩), (1, ⟨29, 2, true, [[.val (.int .i16 q), .sl 9 (pls ys)]]⟩), (0, ⟨29, 2, true, [[.val (.int .i16 p), .sl 9 (pls xs)]]⟩)], 4⟩) (by exact weak_sl (sub_cons rfl (sub_cons rfl (sub_cons rfl (sub_cons rfl (sub_cons rfl (sub_cons rfl (sub_cons rfl (sub_nil))))))))) hS34
            refine ⟨⟨_, rfl, rfl, ?_⟩, trivial⟩
            refine g1 ?_
            exact anyS_weak (st' := ⟨[(51, .ptr 0 0 0), (53, .ptr 1 0 0), (56, .own 3), (57, .ptr 0 0 1), (6, .ptr 4 0 0), (2, .ptr 0 0 0), (3, .ptr 1 0 0), (4, .ptr 2 0 0)], [(4, ⟨29, 2, true, [[.val (.int .i16 0), .nil]]⟩), (3, ⟨47, 9, false, pls []⟩), (2, ⟨29, 2, true, [[.val (.int .i16 0), .nil]]⟩), (1, ⟨29, 2, true, [[.val (.int .i16 q), .sl 9 (pls ys)]]⟩), (0, ⟨29, 2, true, [[.val (.int .i16 p), .sl 9 (pls xs)]]⟩)], 5⟩) (by first | exact weak_sl (sub_cons rfl (sub_cons rfl (sub_cons rfl (sub_cons rfl (sub_cons rfl (sub_cons rfl (sub_cons rfl (sub_cons rfl (sub_nil))))))))) | exact Weak.trans (weak_swap 3 4 (by omega) (by omega) (by omega) (by omega)) (Weak.trans (weak_perm (subhp_cons rfl (subhp_cons rfl (subhp_cons rfl (subhp_cons rfl (subhp_cons rfl (subhp_nil)))))) (subhp_cons rfl (subhp_cons rfl (subhp_cons rfl (subhp_cons rfl (subhp_cons rfl (subhp_nil))))))) (weak_sl (sub_cons rfl (sub_cons rfl (sub_cons rfl (sub_cons rfl (sub_cons rfl (sub_cons rfl (sub_cons rfl (sub_cons rfl (sub_nil)))))))))))) hS35
          refine anyS_cut (fuel' := 8) (listed' := #[true, false, true, false, false, false, true, true, false, false, false, false]) (st' := ⟨[(51, .ptr 0 0 0), (53, .ptr 1 0 0), (58, .sl 9 (pls xs)), (2, .ptr 0 0 0), (3, .ptr 1 0 0), (4, .ptr 2 0 0)], [(2, ⟨29, 2, true, [[.val (.int .i16 0), .nil]]⟩), (1, ⟨29, 2, true, [[.val (.int .i16 q), .sl 9 (pls ys)]]⟩), (0, ⟨29, 2, true, [[.val (.int .i16 p), .sl 9 (pls xs)]]⟩)], 3⟩) ?_ (fun hS40 => ?_)
          · skip
            refine anyS_cons T0_ok hP hm hN (by rfl) [1, 3, 5, 10] (by rfl) rfl ?_
            refine ⟨⟨_, rfl, rfl, ?_⟩, ?_⟩
            · skip
              refine g1 ?_
              exact anyS_weak (st' := ⟨[(52, .val (.int .i16 p)), (53, .ptr 1 0 0), (58, .sl 9 (pls xs)), (2, .ptr 0 0 0), (3, .ptr 1 0 0), (4, .ptr 2 0 0)], [(2, ⟨29, 2, true, [[.val (.int .i16 0), .nil]]⟩), (1, ⟨29, 2, true, [[.val (.int .i16 q), .sl 9 (pls ys)]]⟩), (0, ⟨29, 2, true, [[.val (.int .i16 p), .sl 9 (pls xs)]]⟩)], 3⟩) (by exact weak_sl (sub_cons rfl (sub_cons rfl (sub_cons rfl (sub_cons rfl (sub_cons rfl (sub_cons rfl (sub_nil)))))))) hS29
            refine ⟨⟨_, rfl, rfl, ?_⟩, ?_⟩
            · skip
              refine g1 ?_
              exact anyS_weak (st' := ⟨[(51, .ptr 0 0 0), (54, .val (.int .i16 q)), (58, .sl 9 (pls xs)), (2, .ptr 0 0 0), (3, .ptr 1 0 0), (4, .ptr 2 0 0)], [(2, ⟨29, 2, true, [[.val (.int .i16 0), .nil]]⟩), (1, ⟨29, 2, true, [[.val (.int .i16 q), .sl 9 (pls ys)]]⟩), (0, ⟨29, 2, true, [[.val (.int .i16 p), .sl 9 (pls xs)]]⟩)], 3⟩) (by exact weak_sl (sub_cons rfl (sub_cons rfl (sub_cons rfl (sub_cons rfl (sub_cons rfl (sub_cons rfl (sub_nil)))))))) hS32
            refine ⟨⟨_, rfl, rfl, ?_⟩, ?_⟩
            · skip
              refine g1 ?_
              exact anyS_weak (st' := ⟨[(51, .ptr 0 0 0), (53, .ptr 1 0 0), (56, .own 3), (58, .sl 9 (pls xs)), (2, .ptr 0 0 0), (3, .ptr 1 0 0), (4, .ptr 2 0 0)], [(3, ⟨47, 9, false, pls []⟩), (2, ⟨29, 2, true, [[.val (.int .i16 0), .nil]]⟩), (1, ⟨29, 2, true, [[.val (.int .i16 q), .sl 9 (pls ys)]]⟩), (0, ⟨29, 2, true, [[.val (.int .i16 p), .sl 9 (pls xs)]]⟩)], 4⟩) (by exact weak_sl (sub_cons rfl (sub_cons rfl (sub_cons rfl (sub_cons rfl (sub_cons rfl (sub_cons rfl (sub_cons rfl (sub_nil))))))))) hS34
            refine ⟨⟨_, rfl, rfl, ?_⟩, trivial⟩
            refine g1 ?_
            exact anyS_weak (st' := ⟨[(51, .ptr 0 0 0), (53, .ptr 1 0 0), (58, .sl 9 (pls xs)), (6, .ptr 3 0 0), (2, .ptr 0 0 0), (3, .ptr 1 0 0), (4, .ptr 2 0 0)], [(3, ⟨29, 2, true, [[.val (.int .i16 0), .nil]]⟩), (2, ⟨29, 2, true, [[.val (.int .i16 0), .nil]]⟩), (1, ⟨29, 2, true, [[.val (.int .i16 q), .sl 9 (pls ys)]]⟩), (0, ⟨29, 2, true, [[.val (.int .i16 p), .sl 9 (pls xs)]]⟩)], 4⟩) (by exact weak_sl (sub_cons rfl (sub_cons rfl (sub_cons rfl (sub_cons rfl (sub_cons rfl (sub_cons rfl (sub_cons rfl (sub_nil))))))))) hS36
          refine anyS_cut (fuel' := 8) (listed' := #[true, false, true, false, false, false, true, false, false, false, true, false]) (st' := ⟨[(51, .ptr 0 0 0), (53, .ptr 1 0 0), (57, .ptr 0 0 1), (6, .ptr 3 0 0), (2, .ptr 0 0 0), (3, .ptr 1 0 0), (4, .ptr 2 0 0)], [(3, ⟨29, 2, true, [[.val (.int .i16 0), .nil]]⟩), (2, ⟨29, 2, true, [[.val (.int .i16 0), .nil]]⟩), (1, ⟨29, 2, true, [[.val (.int .i16 q), .sl 9 (pls ys)]]⟩), (0, ⟨29, 2, true, [[.val (.int .i16 p), .sl 9 (pls xs)]]⟩)], 4⟩) ?_ (fun hS41 => ?_)
          · skip
            refine anyS_cons T0_ok hP hm hN (by rfl) [1, 3, 5, 7] (by rfl) rfl ?_
            refine ⟨⟨_, rfl, rfl, ?_⟩, ?_⟩
            · skip
              refine g1 ?_
              exact anyS_weak (st' := ⟨[(52, .val (.int .i16 p)), (53, .ptr 1 0 0), (57, .ptr 0 0 1), (6, .ptr 3 0 0), (2, .ptr 0 0 0), (3, .ptr 1 0 0), (4, .ptr 2 0 0)], [(3, ⟨29, 2, true, [[.val (.int .i16 0), .nil]]⟩), (2, ⟨29, 2, true, [[.val (.int .i16 0), .nil]]⟩), (1, ⟨29, 2, true, [[.val (.int .i16 q), .sl 9 (pls ys)]]⟩), (0, ⟨29, 2, true, [[.val (.int .i16 p), .sl 9 (pls xs)]]⟩)], 4⟩) (by exact weak_sl (sub_cons rfl (sub_cons rfl (sub_cons rfl (sub_cons rfl (sub_cons rfl (sub_cons rfl (sub_cons rfl (sub_nil))))))))) hS30
            refine ⟨⟨_, rfl, rfl, ?_⟩, ?_⟩
            · skip
              refine g1 ?_
              exact anyS_weak (st' := ⟨[(51, .ptr 0 0 0), (54, .val (.int .i16 q)), (57, .ptr 0 0 1), (6, .ptr 3 0 0), (2, .ptr 0 0 0), (3, .ptr 1 0 0), (4, .ptr 2 0 0)], [(3, ⟨29, 2, true, [[.val (.int .i16 0), .nil]]⟩), (2, ⟨29, 2, true, [[.val (.int .i16 0), .nil]]⟩), (1, ⟨29, 2, true, [[.val (.int .i16 q), .sl 9 (pls ys)]]⟩), (0, ⟨29, 2, true, [[.val (.int .i16 p), .sl 9 (pls xs)]]⟩)], 4⟩) (by exact weak_sl (sub_cons rfl (sub_cons rfl (sub_cons rfl (sub_cons rfl (sub_cons rfl (sub_cons rfl (sub_cons rfl (sub_nil))))))))) hS33
            refine ⟨⟨_, rfl, rfl, ?_⟩, ?_⟩
            · skip
              refine g1 ?_
              exact anyS_weak (st' := ⟨[(51, .ptr 0 0 0), (53, .ptr 1 0 0), (56, .own 3), (57, .ptr 0 0 1), (6, .ptr 4 0 0), (2, .ptr 0 0 0), (3, .ptr 1 0 0), (4, .ptr 2 0 0)], [(4, ⟨29, 2, true, [[.val (.int .i16 0), .nil]]⟩), (3, ⟨47, 9, false, pls []⟩), (2, ⟨29, 2, true, [[.val (.int .i16 0), .nil]]⟩), (1, ⟨29, 2, true, [[.val (.int .i16 q), .sl 9 (pls ys)]]⟩), (0, ⟨29, 2, true, [[.val (.int .i16 p), .sl 9 (pls xs)]]⟩)], 5⟩) (by first | exact weak_sl (sub_cons rfl (sub_cons rfl (sub_cons rfl (sub_cons rfl (sub_cons rfl (sub_cons rfl (sub_cons rfl (sub_cons rfl (sub_nil))))))))) | exact Weak.trans (weak_swap 3 4 (by omega) (by omega) (by omega) (by omega)) (Weak.trans (weak_perm (subhp_cons rfl (subhp_cons rfl (subhp_cons rfl (subhp_cons rfl (subhp_cons rfl (subhp_nil)))))) (subhp_cons rfl (subhp_cons rfl (subhp_cons rfl (subhp_cons rfl (subhp_cons rfl (subhp_nil))))))) (weak_sl (sub_cons rfl (sub_cons rfl (sub_cons rfl (sub_cons rfl (sub_cons rfl (sub_cons rfl (sub_cons rfl (sub_cons rfl (sub_nil)))))))))))) hS35
            refine ⟨⟨_, rfl, rfl, ?_⟩, trivial⟩
            refine g1 ?_
            exact anyS_weak (st' := ⟨[(51, .ptr 0 0 0), (53, .ptr 1 0 0), (58, .sl 9 (pls xs)), (6, .ptr 3 0 0), (2, .ptr 0 0 0), (3, .ptr 1 0 0), (4, .ptr 2 0 0)], [(3, ⟨29, 2, true, [[.val (.int .i16 0), .nil]]⟩), (2, ⟨29, 2, true, [[.val (.int .i16 0), .nil]]⟩), (1, ⟨29, 2, true, [[.val (.int .i16 q), .sl 9 (pls ys)]]⟩), (0, ⟨29, 2, true, [[.val (.int .i16 p), .sl 9 (pls xs)]]⟩)], 4⟩) (by exact weak_sl (sub_cons rfl (sub_cons rfl (sub_cons rfl (sub_cons rfl (sub_cons rfl (sub_cons rfl (sub_cons rfl (sub_nil))))))))) hS36
          refine anyS_cut (fuel' := 9) (listed' := #[true, false, true, false, false, false, true, false, false, false, false, false]) (st' := ⟨[(51, .ptr 0 0 0), (53, .ptr 1 0 0), (57, .ptr 0 0 1), (2, .ptr 0 0 0), (3, .ptr 1 0 0), (4, .ptr 2 0 0)], [(2, ⟨29, 2, true, [[.val (.int .i16 0), .nil]]⟩), (1, ⟨29, 2, true, [[.val (.int .i16 q), .sl 9 (pls ys)]]⟩), (0, ⟨29, 2, true, [[.val (.int .i16 p), .sl 9 (pls xs)]]⟩)], 3⟩) ?_ (fun hS42 => ?_)
          · skip
            refine anyS_cons T0_ok hP hm hN (by rfl) [1, 3, 5, 7, 10] (by rfl) rfl ?_
            refine ⟨⟨_, rfl, rfl, ?_⟩, ?_⟩
            · skip
              refine g1 ?_
              exact anyS_weak (st' := ⟨[(52, .val (.int .i16 p)), (53, .ptr 1 0 0), (57, .ptr 0 0 1), (2, .ptr 0 0 0), (3, .ptr 1 0 0), (4, .ptr 2 0 0)], [(2, ⟨29, 2, true, [[.val (.int .i16 0), .nil]]⟩), (1, ⟨29, 2, true, [[.val (.int .i16 q), .sl 9 (pls ys)]]⟩), (0, ⟨29, 2, true, [[.val (.int .i16 p), .sl 9 (pls xs)]]⟩)], 3⟩) (by exact weak_sl (sub_cons rfl (sub_cons rfl (sub_cons rfl (sub_cons rfl (sub_cons rfl (sub_cons rfl (sub_nil)))))))) hS37
            refine ⟨⟨_, rfl, rfl, ?_⟩, ?_⟩
            · skip
              refine g1 ?_
              exact anyS_weak (st' := ⟨[(51, .ptr 0 0 0), (54, .val (.int .i16 q)), (57, .ptr 0 0 1), (2, .ptr 0 0 0), (3, .ptr 1 0 0), (4, .ptr 2 0 0)], [(2, ⟨29, 2, true, [[.val (.int .i16 0), .nil]]⟩), (1, ⟨29, 2, true, [[.val (.int .i16 q), .sl 9 (pls ys)]]⟩), (0, ⟨29, 2, true, [[.val (.int .i16 p), .sl 9 (pls xs)]]⟩)], 3⟩) (by exact weak_sl (sub_cons rfl (sub_cons rfl (sub_cons rfl (sub_cons rfl (sub_cons rfl (sub_cons rfl (sub_nil)))))))) hS38
            refine ⟨⟨_, rfl, rfl, ?_⟩, ?_⟩
            · skip
              refine g1 ?_
              exact anyS_weak (st' := ⟨[(51, .ptr 0 0 0), (53, .ptr 1 0 0), (56, .own 3), (57, .ptr 0 0 1), (2, .ptr 0 0 0), (3, .ptr 1 0 0), (4, .ptr 2 0 0)], [(3, ⟨47, 9, false, pls []⟩), (2, ⟨29, 2, true, [[.val (.int .i16 0), .nil]]⟩), (1, ⟨29, 2, true, [[.val (.int .i16 q), .sl 9 (pls ys)]]⟩), (0, ⟨29, 2, true, [[.val (.int .i16 p), .sl 9 (pls xs)]]⟩)], 4⟩) (by exact weak_sl (sub_cons rfl (sub_cons rfl (sub_cons rfl (sub_cons rfl (sub_cons rfl (sub_cons rfl (sub_cons rfl (sub_nil))))))))) hS39
            refine ⟨⟨_, rfl, rfl, ?_⟩, ?_⟩
            · skip
              refine g1 ?_
              exact anyS_weak (st' := ⟨[(51, .ptr 0 0 0), (53, .ptr 1 0 0), (58, .sl 9 (pls xs)), (2, .ptr 0 0 0), (3, .ptr 1 0 0), (4, .ptr 2 0 0)], [(2, ⟨29, 2, true, [[.val (.int .i16 0), .nil]]⟩), (1, ⟨29, 2, true, [[.val (.int .i16 q), .sl 9 (pls ys)]]⟩), (0, ⟨29, 2, true, [[.val (.int .i16 p), .sl 9 (pls xs)]]⟩)], 3⟩) (by exact weak_sl (sub_cons rfl (sub_cons rfl (sub_cons rfl (sub_cons rfl (sub_cons rfl (sub_cons rfl (sub_nil)))))))) hS40
            refine ⟨⟨_, rfl, rfl, ?_⟩, trivial⟩
            refine g1 ?_
            exact anyS_weak (st' := ⟨[(51, .ptr 0 0 0), (53, .ptr 1 0 0), (57, .ptr 0 0 1), (6, .ptr 3 0 0), (2, .ptr 0 0 0), (3, .ptr 1 0 0), (4, .ptr 2 0 0)], [(3, ⟨29, 2, true, [[.val (.int .i16 0), .nil]]⟩), (2, ⟨29, 2, true, [[.val (.int .i16 0), .nil]]⟩), (1, ⟨29, 2, true, [[.val (.int .i16 q), .sl 9 (pls ys)]]⟩), (0, ⟨29, 2, true, [[.val (.int .i16 p), .sl 9 (pls xs)]]⟩)], 4⟩) (by exact weak_sl (sub_cons rfl (sub_cons rfl (sub_cons rfl (sub_cons rfl (sub_cons rfl (sub_cons rfl (sub_cons rfl (sub_nil))))))))) hS41
          refine anyS_floatA T0_ok hP hm hN (by rfl) 0 rfl rfl rfl (by rfl) (by rfl) (by rfl) (by rfl) (by rfl) (by rfl) ?_
          refine g1 ?_
          refine anyS_floatA T0_ok hP hm hN (by rfl) 2 rfl rfl rfl (by rfl) (by rfl) (by rfl) (by rfl) (by rfl) (by rfl) ?_
          refine g1 ?_
          refine anyS_floatA T0_ok hP hm hN (by rfl) 6 rfl rfl rfl (by rfl) (by rfl) (by rfl) (by rfl) (by rfl) (by rfl) ?_
          refine g1 ?_
          exact anyS_weak (st' := ⟨[(51, .ptr 0 0 0), (53, .ptr 1 0 0), (57, .ptr 0 0 1), (2, .ptr 0 0 0), (3, .ptr 1 0 0), (4, .ptr 2 0 0)], [(2, ⟨29, 2, true, [[.val (.int .i16 0), .nil]]⟩), (1, ⟨29, 2, true, [[.val (.int .i16 q), .sl 9 (pls ys)]]⟩), (0, ⟨29, 2, true, [[.val (.int .i16 p), .sl 9 (pls xs)]]⟩)], 3⟩) (by exact weak_sl (sub_cons rfl (sub_cons rfl (sub_cons rfl (sub_cons rfl (sub_cons rfl (sub_cons rfl (sub_nil)))))))) hS42
        · skip
          refine awp_seq ?_
          refine awp_seq ?_
          refine r1 T0_ok hP hm hN ?_
          refine g1 ?_
          refine awp_block ?_
          refine awp_loop (fun n st => ∃ i : Nat, i ≤ ys.length ∧ n = ys.length - i ∧ st = ⟨[(7, .val (.int .i64 (i : Nat))), (2, .ptr 0 0 0), (3, .ptr 1 0 0), (4, .ptr 2 0 0), (6, .ptr 4 0 0)], [(4, ⟨29, 2, true, [[.val (.int .i16 (p + q)), .own 3]]⟩), (3, ⟨47, 9, false, pls (xs ++ mapF (shPl p) ys i)⟩), (2, ⟨29, 2, true, [[.val (.int .i16 0), .nil]]⟩), (1, ⟨29, 2, true, [[.val (.int .i16 q), .sl 9 (pls ys)]]⟩), (0, ⟨29, 2, true, [[.val (.int .i16 p), .sl 9 (pls xs)]]⟩)], 5⟩) (ys.length) ⟨_, (by rw [show mapF (shPl p) ys 0 = [] from rfl, List.append_nil]; exact weak_sl (sub_cons rfl (sub_cons rfl (sub_cons rfl (sub_cons rfl (sub_cons rfl (sub_nil))))))), 0, by omega, rfl, rfl⟩ ?_
          rintro n st ⟨i, hii, hni, rfl⟩
          have hml := mapF_len (shPl p) ys hii
          refine awp_seq ?_
          refine awp_seq ?_
          refine r1 T0_ok hP hm hN ?_
          refine g1 ?_
          refine g1 ?_
          refine g1 ?_
          refine g1 ?_
          refine g1 ?_
          refine awp_cond rfl (fun hc3 => ?_) (fun hc3 => ?_)
          · skip
            have hlti : i < ys.length := by simpa using hc3
            obtain ⟨hx1, hx2⟩ := hbt i hlti
            refine awp_skip ?_
            refine awp_seq ?_
            refine awp_block ?_
            refine awp_drawS T0_ok hP hm hN Pr_mix [0, 1, 2, 3, 4, 5, 6, 7, 8, 9, 10, 11] [17, 18] 19 _ rfl rfl rfl (by rfl) ?_
            refine d1 T0_ok ?_
            refine d1 T0_ok ?_
            refine d1 T0_ok ?_
            refine d1 T0_ok ?_
            refine d1 T0_ok ?_
            refine d1 T0_ok ?_
            refine d1 T0_ok ?_
            refine d1 T0_ok ?_
            refine d1 T0_ok ?_
            refine d1 T0_ok ?_
            refine d1 T0_ok ?_
            refine d1 T0_ok ?_
            refine d1 T0_ok ?_
            refine d1 T0_ok ?_
            refine d1 T0_ok ?_
            refine d1 T0_ok ?_
            refine d1 T0_ok ?_
            refine dp1 ?_ (oprel_astep T0_ok (by rfl) rfl (by first | trivial | rfl | exact ⟨rfl, rfl⟩ | exact ⟨rfl, rfl, fun _ => rfl, Nat.le_of_ble_eq_true rfl, .inl rfl⟩ | exact ⟨rfl, rfl, fun h => (nomatch h), Nat.le_of_ble_eq_true rfl, .inl rfl⟩ | exact ⟨rfl, rfl, fun _ => rfl, Nat.le_of_ble_eq_true rfl, .inr rfl⟩ | exact ⟨rfl, rfl, fun h => (nomatch h), Nat.le_of_ble_eq_true rfl, .inr rfl⟩ | omega | exact ⟨rfl, by (repeat (first | exact fm_nil | refine fm_cons ⟨rfl, rfl⟩ ?_)), Nat.le_of_ble_eq_true rfl, Nat.le_of_ble_eq_true rfl⟩ | (refine ⟨?_, ?_, ?_, ?_, ?_, ?_, ?_⟩ <;> first | omega | exact Nat.le_of_ble_eq_true rfl) | exact ⟨rfl, by omega, by (try simp only [List.length_map, List.length_set]); omega⟩ | exact ⟨rfl, by omega, by simp only [Int.toNat_natCast]; omega, by omega, Nat.le_of_ble_eq_true rfl, rfl⟩))
            refine dp1 ?_ (oprel_astep T0_ok (by rfl) rfl (by first | trivial | rfl | exact ⟨rfl, rfl⟩ | exact ⟨rfl, rfl, fun _ => rfl, Nat.le_of_ble_eq_true rfl, .inl rfl⟩ | exact ⟨rfl, rfl, fun h => (nomatch h), Nat.le_of_ble_eq_true rfl, .inl rfl⟩ | exact ⟨rfl, rfl, fun _ => rfl, Nat.le_of_ble_eq_true rfl, .inr rfl⟩ | exact ⟨rfl, rfl, fun h => (nomatch h), Nat.le_of_ble_eq_true rfl, .inr rfl⟩ | omega | exact ⟨rfl, by (repeat (first | exact fm_nil | refine fm_cons ⟨rfl, rfl⟩ ?_)), Nat.le_of_ble_eq_true rfl, Nat.le_of_ble_eq_true rfl⟩ | (refine ⟨?_, ?_, ?_, ?_, ?_, ?_, ?_⟩ <;> first | omega | exact Nat.le_of_ble_eq_true rfl) | exact ⟨rfl, by omega, by (try simp only [List.length_map, List.length_set]); omega⟩ | exact ⟨rfl, by omega, by simp only [Int.toNat_natCast]; omega, by omega, Nat.le_of_ble_eq_true rfl, rfl⟩))
            refine dreg_nil ?_
            refine ga1 ?_
            refine g1 ?_
            refine g1 ?_
            refine r1 T0_ok hP hm hN ?_
            refine g1 ?_
            refine g1 ?_
            refine g1 ?_
            refine ⟨ys.length - (i + 1), _, by omega, (by rw [mapF_succ (d := pl0) (shPl p) hlti, ← List.append_assoc]; simp only [pls_app]; exact Weak.trans (weak_drop 5) (Weak.trans (weak_nx (nx' := 5) (by omega) (by rfl)) (weak_sl (sub_cons rfl (sub_cons rfl (sub_cons rfl (sub_cons rfl (sub_cons rfl (sub_nil))))))))), i + 1, by omega, rfl, rfl⟩
          · skip
            have hgei : ¬ i < ys.length := by simpa using hc3
            have heqi : i = ys.length := by omega
            rw [heqi, mapF_all]
            refine awp_exit ?_
            repeat refine thenA_exit ?_
            refine blockA_hit ?_
            refine awp_seq ?_
            refine r1 T0_ok hP hm hN ?_
            refine g1 ?_
            refine g1 ?_
            refine g1 ?_
            refine awp_ret ?_
            refine fin_mk [3] rfl rfl ?_ (by simp only [hr]; exact objs_cons rfl rfl rfl rfl rfl (.inl rfl) objs_nil) (by decide)
            show D.tup [.agg [.val (.int .i16 (joinR (!okR p xs || !okR q ys) p xs q ys).1), .own 3], .val (.int .i64 (joinR (!okR p xs || !okR q ys) p xs q ys).2.2)] = _
            rw [hr]
            rfl

noncomputable abbrev s_I_JoinRacks : Spec ((Int × List Pl) × (Int × List Pl)) where
  args := fun x => [rackD x.1, rackD x.2]
  pre := fun x => ((∀ b ∈ x.1.2, isPl b) ∧ (∀ b ∈ x.2.2, isPl b)) ∧ x.1.2.length + x.2.2.length ≤ 1048576
  new := fun x => [⟨47, 9, false, pls (joinR (!validR x.1.1 x.1.2 || !validR x.2.1 x.2.2) x.1.1 x.1.2 x.2.1 x.2.2).2.1⟩]
  res := fun x => .tup [.agg [.val (.int .i16 (joinR (!validR x.1.1 x.1.2 || !validR x.2.1 x.2.2) x.1.1 x.1.2 x.2.1 x.2.2).1), .own 0], .val (.int .i64 (joinR (!validR x.1.1 x.1.2 || !validR x.2.1 x.2.2) x.1.1 x.1.2 x.2.1 x.2.2).2.2)]

set_option maxRecDepth 20000 in
set_option maxHeartbeats 8000000 in
theorem ok_I_JoinRacks : FnOk Pr 13 s_I_JoinRacks := by
  refine fn_ok 2 0 T0_ok Go.Proofs.Try.func13 rfl (enters_of Go.Proofs.Try.func13 rfl rfl) (fun _ => rfl) (fun _ => rfl) (fun _ => rfl) ?_
  rintro ⟨⟨p, xs⟩, q, ys⟩ ⟨⟨hv, hw⟩, hl⟩ C hP hN hm hG
  change awp C _ _ ⟨[(0, .agg [.val (.int .i16 p), .sl 9 (pls xs)]), (1, .agg [.val (.int .i16 q), .sl 9 (pls ys)])], [], 0⟩
  simp only at hv hl hw
  refine awp_seq ?_
  refine r1 T0_ok hP hm hN ?_
  refine g1 ?_
  refine g1 ?_
  refine g1 ?_
  refine g1 ?_
  refine awp_seq ?_
  refine awp_block ?_
  refine awp_seq ?_
  refine r1 T0_ok hP hm hN ?_
  refine g1 ?_
  refine gc1 ?_ (call1 ok_I_ValidRack (p, xs) [] (hpre := by (try dsimp only); exact ⟨hv, by omega⟩))
  refine g1 ?_
  refine g1 ?_
  refine gg1 ?_
  refine ggc1 ?_ (hs := by intro hb; simp +decide only [hb, gd_tt, gd_ff, beq_self_eq_true, Bool.true_and, beq_true]; exact ⟨rfl, _, call1 ok_I_ValidRack (q, ys) [] (hpre := by (try dsimp only); exact ⟨hw, by omega⟩), rfl, rfl, rfl⟩)
  refine gg1 ?_
  refine g1 ?_
  refine g1 ?_
  refine awp_cond rfl (fun hc0 => ?_) (fun hc0 => ?_)
  · skip
    have hr : joinR (!validR p xs || !validR q ys) p xs q ys = (0, [], 1) := by rw [joinR, if_pos hc0]
    refine awp_seq ?_
    refine r1 T0_ok hP hm hN ?_
    refine g1 ?_
    refine g1 ?_
    refine g1 ?_
    refine awp_weak (weak_nilO 2 0 1 47 9 rfl rfl rfl rfl) ?_
    refine awp_ret ?_
    refine fin_mk [3] rfl rfl ?_ (by simp only [hr]; exact objs_cons rfl rfl rfl rfl rfl (.inl rfl) objs_nil) (by decide)
    show D.tup [.agg [.val (.int .i16 (joinR (!validR p xs || !validR q ys) p xs q ys).1), .own 3], .val (.int .i64 (joinR (!validR p xs || !validR q ys) p xs q ys).2.2)] = _
    rw [hr]
    rfl
  · skip
    have hok1 : validR p xs = true := by revert hc0; cases validR p xs <;> simp
    have hok2 : validR q ys = true := by revert hc0; cases validR q ys <;> simp
    have hva : validR p xs = true := by exact hok1
    have hvb : validR q ys = true := by exact hok2
    obtain ⟨⟨hp1, hp2⟩, hat⟩ := validR_b hva
    obtain ⟨⟨hq1, hq2⟩, hbt⟩ := validR_b hvb
    have hjs := join_sorted (srt_of_valid hva) (srt_of_valid hvb)
    refine awp_seq ?_
    refine awp_drawS T0_ok hP hm hN Pr_mix [0, 1, 2, 3, 4, 5, 6, 7, 8, 9, 10, 11] [1, 3] 4 _ rfl rfl rfl (by rfl) ?_
    refine d1 T0_ok ?_
    refine dp1 ?_ (call1 ok_I_Rack_books (p, xs) [] (hpre := by (try dsimp only); exact (by omega)))
    refine d1 T0_ok ?_
    refine dp1 ?_ (call1 ok_I_Rack_books (q, ys) [] (hpre := by (try dsimp only); exact (by omega)))
    refine dreg_nil ?_
    refine ga1 ?_
    refine gc1 ?_ (call1 ok_I_isSorted (xs.map Prod.snd ++ ys.map Prod.snd) [] (hargs := (by simp only [bks_app]; exact args_cons (by first | exact arga_val | exact arga_slsl | exact arga_nil | exact arga_slown (by simp) rfl rfl rfl rfl | exact arga_own rfl | exact arga_slnil | exact argc_rptr (by simp) rfl rfl rfl (.inr (by simp [hf])) | exact argA_self rfl) args_nil)) (hpre := by (try dsimp only); simp only [List.length_append, List.length_map]; omega))
    refine g1 ?_
    refine g1 ?_
    refine awp_cond rfl (fun hc1 => ?_) (fun hc1 => ?_)
    · skip
      have hr : joinR (!validR p xs || !validR q ys) p xs q ys = (0, [], 4) := by rw [joinR, if_neg (by rw [hc0]; simp), if_pos (by rw [← hjs]; exact hc1)]
      refine awp_seq ?_
      refine r1 T0_ok hP hm hN ?_
      refine g1 ?_
      refine g1 ?_
      refine g1 ?_
      refine awp_weak (weak_nilO 2 0 1 47 9 rfl rfl rfl rfl) ?_
      refine awp_ret ?_
      refine fin_mk [5] rfl rfl ?_ (by simp only [hr]; exact objs_cons rfl rfl rfl rfl rfl (.inl rfl) objs_nil) (by decide)
      show D.tup [.agg [.val (.int .i16 (joinR (!validR p xs || !validR q ys) p xs q ys).1), .own 5], .val (.int .i64 (joinR (!validR p xs || !validR q ys) p xs q ys).2.2)] = _
      rw [hr]
      rfl
    · skip
      have hcb : bordB xs ys = false := by rw [← hjs]; exact hc1
      refine awp_seq ?_
      refine r1 T0_ok hP hm hN ?_
      refine g1 ?_
      refine g1 ?_
      refine g1 ?_
      refine g1 ?_
      refine g1 ?_
      refine g1 ?_
      refine g1 ?_
      refine awp_cond rfl (fun hc2 => ?_) (fun hc2 => ?_)
      · skip
        have hr : joinR (!validR p xs || !validR q ys) p xs q ys = (0, [], 3) := by rw [joinR, if_neg (by rw [hc0]; simp), if_neg (by rw [hcb]; simp), if_pos hc2]
        refine awp_seq ?_
        refine r1 T0_ok hP hm hN ?_
        refine g1 ?_
        refine g1 ?_
        refine g1 ?_
        refine awp_weak (weak_nilO 2 0 1 47 9 rfl rfl rfl rfl) ?_
        refine awp_ret ?_
        refine fin_mk [5] rfl rfl ?_ (by simp only [hr]; exact objs_cons rfl rfl rfl rfl rfl (.inl rfl) objs_nil) (by decide)
        show D.tup [.agg [.val (.int .i16 (joinR (!validR p xs || !validR q ys) p xs q ys).1), .own 5], .val (.int .i64 (joinR (!validR p xs || !validR q ys) p xs q ys).2.2)] = _
        rw [hr]
        rfl
      · skip
        have hr : joinR (!validR p xs || !validR q ys) p xs q ys = (p + q, xs ++ ys.map (shPl p), 0) := by rw [joinR, if_neg (by rw [hc0]; simp), if_neg (by rw [hcb]; simp), if_neg (by rw [hc2]; simp)]
        have hpq : p + q ≤ 60 := by simp at hc2; omega
        refine awp_skip ?_
        refine awp_seq ?_
        refine awp_drawE T0_ok hP hm hN Pr_mix [0, 1, 2, 3, 4, 5, 6, 7, 8, 9, 10, 11] [7, 8] [(9, 6, 29)] 10 _ rfl rfl rfl (by rfl) (by rfl) ?_
        refine d1 T0_ok ?_
        refine d1 T0_ok ?_
        refine d1 T0_ok ?_
        refine d1 T0_ok ?_
        refine d1 T0_ok ?_
        refine d1 T0_ok ?_
        refine d1 T0_ok ?_
        refine dp1 ?_ (call1 ok_slices_Clone_I_Placed_I_Placed xs [] (hpre := by (try dsimp only); omega))
        refine dp1 ?_ (oprel_astep T0_ok (by rfl) rfl (by first | trivial | rfl | exact ⟨rfl, rfl⟩ | exact ⟨rfl, rfl, fun _ => rfl, Nat.le_of_ble_eq_true rfl, .inl rfl⟩ | exact ⟨rfl, rfl, fun h => (nomatch h), Nat.le_of_ble_eq_true rfl, .inl rfl⟩ | exact ⟨rfl, rfl, fun _ => rfl, Nat.le_of_ble_eq_true rfl, .inr rfl⟩ | exact ⟨rfl, rfl, fun h => (nomatch h), Nat.le_of_ble_eq_true rfl, .inr rfl⟩ | omega | exact ⟨rfl, by (repeat (first | exact fm_nil | refine fm_cons ⟨rfl, rfl⟩ ?_)), Nat.le_of_ble_eq_true rfl, Nat.le_of_ble_eq_true rfl⟩ | (refine ⟨?_, ?_, ?_, ?_, ?_, ?_, ?_⟩ <;> first | omega | exact Nat.le_of_ble_eq_true rfl) | exact ⟨rfl, by omega, by (try simp only [List.length_map, List.length_set]); omega⟩ | exact ⟨rfl, by omega, by simp only [Int.toNat_natCast]; omega, by omega, Nat.le_of_ble_eq_true rfl, rfl⟩))
        refine dlay T0_ok ?_
        refine dreg_nil ?_
        refine ⟨by (repeat (first | exact fm_nil | refine fm_cons rfl ?_)), ?_⟩
        refine al1 ?_
        refine al0 ?_
        refine g1 ?_
        refine awp_seq ?_
        refine awp_seq ?_
        refine r1 T0_ok hP hm hN ?_
        refine g1 ?_
        refine g1 ?_
        refine g1 ?_
        refine g1 ?_
        refine awp_block ?_
        refine awp_loop (fun n st => ∃ i : Nat, i ≤ ys.length ∧ n = ys.length - i ∧ st = ⟨[(48, .val (.int .i64 (i : Nat))), (47, .val (.int .i64 (ys.length : Nat))), (46, .sl 9 (pls ys)), (2, .ptr 0 0 0), (4, .ptr 2 0 0), (6, .ptr 6 0 0)], [(6, ⟨29, 2, true, [[.val (.int .i16 (p + q)), .own 5]]⟩), (5, ⟨47, 9, false, pls (xs ++ mapF (shPl p) ys i)⟩), (2, ⟨29, 2, true, [[.val (.int .i16 0), .nil]]⟩), (1, ⟨29, 2, true, [[.val (.int .i16 q), .sl 9 (pls ys)]]⟩), (0, ⟨29, 2, true, [[.val (.int .i16 p), .sl 9 (pls xs)]]⟩)], 7⟩) (ys.length) ⟨_, (by rw [show mapF (shPl p) ys 0 = [] from rfl, List.append_nil]; exact Weak.trans (weak_drop 4) (Weak.trans (weak_drop 3) (weak_sl (sub_cons rfl (sub_cons rfl (sub_cons rfl (sub_cons rfl (sub_cons rfl (sub_cons rfl (sub_nil)))))))))), 0, by omega, rfl, rfl⟩ ?_
        rintro n st ⟨i, hii, hni, rfl⟩
        have hml := mapF_len (shPl p) ys hii
        refine awp_seq ?_
        refine r1 T0_ok hP hm hN ?_
        refine g1 ?_
        refine awp_seq ?_
        refine awp_cond rfl (fun hc3 => ?_) (fun hc3 => ?_)
        · skip
          have hlti : i < ys.length := by simpa using hc3
          obtain ⟨hx1, hx2⟩ := hbt i hlti
          refine awp_skip ?_
          refine awp_seq ?_
          refine awp_block ?_
          refine awp_seq ?_
          refine r1 T0_ok hP hm hN ?_
          refine g1 ?_
          refine g1 ?_
          refine g1 ?_
          refine g1 ?_
          refine r1 T0_ok hP hm hN ?_
          refine g1 ?_
          refine g1 ?_
          refine g1 ?_
          refine g1 ?_
          refine g1 ?_
          refine g1 ?_
          refine g1 ?_
          refine g1 ?_
          refine g1 ?_
          refine g1 ?_
          refine g1 ?_
          refine ga1 ?_
          refine g1 ?_
          refine g1 ?_
          refine r1 T0_ok hP hm hN ?_
          refine g1 ?_
          refine g1 ?_
          refine ⟨ys.length - (i + 1), _, by omega, (by rw [mapF_succ (d := pl0) (shPl p) hlti, ← List.append_assoc, show shPl p (ys.getD i pl0) = ((ys.getD i pl0).1 + p, (ys.getD i pl0).2) by rw [shPl, Int.add_comm]]; simp only [pls_app]; exact Weak.trans (weak_drop 8) (Weak.trans (weak_drop 7) (Weak.trans (weak_nx (nx' := 7) (by omega) (by rfl)) (weak_sl (sub_cons rfl (sub_cons rfl (sub_cons rfl (sub_cons rfl (sub_cons rfl (sub_cons rfl (sub_nil))))))))))), i + 1, by omega, rfl, rfl⟩
        · skip
          have hgei : ¬ i < ys.length := by simpa using hc3
          have heqi : i = ys.length := by omega
          rw [heqi, mapF_all]
          refine awp_exit ?_
          repeat refine thenA_exit ?_
          refine blockA_hit ?_
          refine awp_seq ?_
          refine r1 T0_ok hP hm hN ?_
          refine g1 ?_
          refine g1 ?_
          refine g1 ?_
          refine awp_ret ?_
          refine fin_mk [5] rfl rfl ?_ (by simp only [hr]; exact objs_cons rfl rfl rfl rfl rfl (.inl rfl) objs_nil) (by decide)
          show D.tup [.agg [.val (.int .i16 (joinR (!validR p xs || !validR q ys) p xs q ys).1), .own 5], .val (.int .i64 (joinR (!validR p xs || !validR q ys) p xs q ys).2.2)] = _
          rw [hr]
          rfl
end Go.Proofs.Ytamdnmkdhpleiaa.Abs
