import Derived.Test.YtheoapoddmmahaaGreatE7
set_option linter.unusedVariables false
set_option linter.unusedSimpArgs false
namespace Go.Proofs.YtheoapoddmmahaaGreat.Abs
open Go Go.RowKit

theorem best_eq {a b c : Int} {bs : List Bk} {cn : Nat} (hok : pegsOk a b c = true) (ho : ∀ b ∈ bs, okB2 b) (hl : bs.length ≤ 60) (h1 : 1 ≤ cn) (h6 : cn ≤ 6) (hm : cn ≤ (htsI a b bs).length) :
    bestLS (htsI a b bs) bs cn = bestL a b bs cn ∧ FS (wF bs (0 :: htsI a b bs)) (htsI a b bs).length cn 0 = bestV a b bs cn ∧ 0 ≤ bestV a b bs cn := by
  have hal := htsI_ok hok ho
  have hW : ∀ i j, 0 ≤ wF bs (0 :: htsI a b bs) i j ∧ wF bs (0 :: htsI a b bs) i j ≤ 6000000 := fun i j => wF_b ho hl hal i j
  have hp := FS_pos (m := (htsI a b bs).length) (fun i j => (hW i j).1) cn 0 h1 (by omega)
  have ht := tr_eq hW (by omega) (by decide) cn 0 h6 (Nat.zero_le _) hp
  have hf := F_tie (m := (htsI a b bs).length) hW (by omega) (by decide) cn h6 0
  have e : FI (wF bs (0 :: htsI a b bs)) (htsI a b bs).length cn 0 = FS (wF bs (0 :: htsI a b bs)) (htsI a b bs).length cn 0 := by
    rcases hf with ⟨_, h⟩ | ⟨h, _⟩
    · omega
    · exact h
  refine ⟨?_, e.symm, by rw [bestV]; show 0 ≤ FI (wF bs (0 :: htsI a b bs)) _ _ _; rw [e]; exact hp⟩
  rw [bestLS, bestL]
  show _ = List.map _ (trI (wF bs (0 :: htsI a b bs)) _ _ _)
  rw [ht.1]
theorem trI_len (W : Nat → Nat → Int) (m : Nat) : ∀ k a, (trI W m k a).length ≤ k
  | 0, _ => by simp [trI]
  | k + 1, a => by
    rw [trI]
    split
    · simp only [List.length_cons]; have := trI_len W m k (fj (cI W m k a) (a + 1) (m - a)); omega
    · have := trI_len W m k a; omega
noncomputable def bstR (a b c : Int) (bs : List Bk) (count : Int) : List Int × Int × Int :=
  if (!pegsOk a b c || !validBs bs) = true then ([], 0, 1) else if (!inI count 1 6) = true then ([], 0, 2) else if decide (((htsI a b bs).length : Int) < count) = true then ([], 0, 6) else (bestL a b bs count.toNat, bestV a b bs count.toNat, 0)
theorem bksC_one {a b c : Int} {bs : List Bk} (h : bksC a b c bs ≠ 0) : (!pegsOk a b c || !validBs bs) = true ∧ bksC a b c bs = 1 := by
  unfold bksC at h ⊢
  split
  · rename_i h1; exact ⟨h1, rfl⟩
  · rename_i h1; rw [if_neg h1] at h; exact absurd rfl h
theorem bksC_zero {a b c : Int} {bs : List Bk} (h : bksC a b c bs = 0) : (!pegsOk a b c || !validBs bs) = false := by
  unfold bksC at h
  split at h
  · cases h
  · rename_i h1; simpa using h1

noncomputable abbrev s_I_BestHeights : Spec ((Int × Int × Int) × List Bk × Int) where
  args := fun x => [pegs x.1, .sl 8 (bks x.2.1), .val (.int .i64 x.2.2)]
  pre := fun x => isPegs x.1 ∧ ((∀ b ∈ x.2.1, isBk b) ∧ x.2.1.length ≤ 1048576) ∧ -9223372036854775808 ≤ x.2.2 ∧ x.2.2 ≤ 9223372036854775807
  new := fun x => [⟨2, 1, false, i64s ((bstR x.1.1 x.1.2.1 x.1.2.2 x.2.1 x.2.2).1)⟩]
  res := fun x => .tup [.own 0, .val (.int .i64 (bstR x.1.1 x.1.2.1 x.1.2.2 x.2.1 x.2.2).2.1), .val (.int .i64 (bstR x.1.1 x.1.2.1 x.1.2.2 x.2.1 x.2.2).2.2)]

set_option maxRecDepth 20000 in
set_option maxHeartbeats 1000000 in
theorem ok_I_BestHeights : FnOk Pr 10 s_I_BestHeights := by
 refine fn_ok 3 0 T0_ok Go.Proofs.Tryz.func10 rfl (enters_of Go.Proofs.Tryz.func10 rfl rfl) (fun _ => rfl) (fun _ => rfl) (fun _ => rfl) ?_
 rintro ⟨⟨a, b, c⟩, bs, count⟩ ⟨hp, ⟨hv, hl⟩, hcl, hch⟩ C hP hN hm hG
 change awp C _ _ ⟨[(0, .val (.agg #[.int .i16 a, .int .i16 b, .int .i16 c])), (1, .sl 8 (bks bs)), (2, .val (.int .i64 count))], [], 0⟩
 simp only at hv hl hcl hch
 have hhl := htsI_len a b bs
 refine awp_seq ?_
 refine r1 T0_ok hP hm hN ?_
 iterate 4 refine g1 ?_
 refine awp_seq ?_
 refine awp_block ?_
 refine awp_seq ?_
 refine r1 T0_ok hP hm hN ?_
 refine g1 ?_
 refine gc1 ?_ (call1 ok_I_ValidPegs (_, _, _) [] (hpre := by (try dsimp only); exact hp))
 iterate 2 refine g1 ?_
 refine gg1 ?_
 refine ggc1 ?_ (hs := by intro hb; simp +decide only [hb, gd_tt, gd_ff, beq_self_eq_true, Bool.true_and, beq_true]; exact ⟨rfl, _, call1 ok_I_ValidBooks _ [] (hpre := by (try dsimp only); omega), rfl, rfl, rfl⟩)
 refine gg1 ?_
 iterate 2 refine g1 ?_
 refine awp_cond rfl (fun hc0 => ?_) (fun hc0 => ?_)
 ·
  have hr : bstR a b c bs count = ([], 0, 1) := by rw [bstR, if_pos hc0]
  refine awp_seq ?_
  refine r1 T0_ok hP hm hN ?_
  iterate 3 refine g1 ?_
  refine awp_weak (weak_nil 6 2 1 rfl) ?_
  refine awp_ret ?_
  refine fin_mk [1] rfl rfl ?_ (by simp only [hr]; exact objs_cons rfl rfl rfl rfl rfl (.inl rfl) objs_nil) (by decide)
  show D.tup [_, .val (.int .i64 (bstR a b c bs count).2.1), .val (.int .i64 (bstR a b c bs count).2.2)] = _
  rw [hr]
  rfl
 ·
  obtain ⟨hok, hvb, hl60⟩ := okb hc0
  obtain ⟨hob, -⟩ := validBs_b2 hvb
  refine awp_seq ?_
  refine r1 T0_ok hP hm hN ?_
  refine g1 ?_
  refine gc1 ?_ (call1 ok_I_within_int64 (_, _, _) [])
  iterate 2 refine g1 ?_
  refine awp_cond rfl (fun hc1 => ?_) (fun hc1 => ?_)
  ·
   have hr : bstR a b c bs count = ([], 0, 2) := by rw [bstR, if_neg (by rw [hc0]; simp), if_pos hc1]
   refine awp_seq ?_
   refine r1 T0_ok hP hm hN ?_
   iterate 3 refine g1 ?_
   refine awp_weak (weak_nil 6 2 1 rfl) ?_
   refine awp_ret ?_
   refine fin_mk [1] rfl rfl ?_ (by simp only [hr]; exact objs_cons rfl rfl rfl rfl rfl (.inl rfl) objs_nil) (by decide)
   show D.tup [_, .val (.int .i64 (bstR a b c bs count).2.1), .val (.int .i64 (bstR a b c bs count).2.2)] = _
   rw [hr]
   rfl
  ·
   have hin : 1 ≤ count ∧ count ≤ 6 := inI_iff.1 (by simpa using hc1)
   obtain ⟨cn, hcn⟩ : ∃ cn : Nat, count = (cn : Int) := ⟨count.toNat, by omega⟩
   subst hcn
   refine awp_seq ?_
   refine r1 T0_ok hP hm hN ?_
   iterate 2 refine g1 ?_
   refine gc1 ?_ (call1 ok_I_Pegs_heightsOf ((_, _, _), _) [] (hpre := by (try dsimp only); exact ⟨hok, hp, hv, by omega⟩))
   iterate 4 refine g1 ?_
   refine awp_cond rfl (fun hc2 => ?_) (fun hc2 => ?_)
   ·
    have hlt : ((htsI a b bs).length : Int) < (cn : Int) := by simpa using hc2
    have hr : bstR a b c bs (cn : Int) = ([], 0, 6) := by rw [bstR, if_neg (by rw [hc0]; simp), if_neg (by rw [hc1]; simp), if_pos (by simpa using hlt)]
    refine awp_seq ?_
    refine r1 T0_ok hP hm hN ?_
    iterate 3 refine g1 ?_
    refine awp_weak (weak_nil 6 2 1 rfl) ?_
    refine awp_ret ?_
    refine fin_mk [2] rfl rfl ?_ (by simp only [hr]; exact objs_cons rfl rfl rfl rfl rfl (.inl rfl) objs_nil) (by decide)
    show D.tup [_, .val (.int .i64 (bstR a b c bs (cn : Int)).2.1), .val (.int .i64 (bstR a b c bs (cn : Int)).2.2)] = _
    rw [hr]
    rfl
   ·
    have hge : ¬ ((htsI a b bs).length : Int) < (cn : Int) := by simpa using hc2
    have hr : bstR a b c bs (cn : Int) = (bestL a b bs cn, bestV a b bs cn, 0) := by rw [bstR, if_neg (by rw [hc0]; simp), if_neg (by rw [hc1]; simp), if_neg (by simpa using hge), Int.toNat_natCast]
    refine awp_skip ?_
    refine awp_seq ?_
    refine r1 T0_ok hP hm hN ?_
    iterate 3 refine g1 ?_
    refine gc1 ?_ (call1 ok_I_Pegs_bestHeights ((_, _, _), _, cn) [] (hpre := by (try dsimp only); exact ⟨⟨hok, hp, hv, hob, hl60⟩, by omega, by omega⟩))
    iterate 5 refine g1 ?_
    refine awp_seq ?_
    refine r1 T0_ok hP hm hN ?_
    iterate 5 refine g1 ?_
    refine awp_ret ?_
    refine fin_mk [2] rfl rfl ?_ (by simp only [hr]; exact objs_cons rfl rfl rfl rfl rfl (.inl rfl) objs_nil) (by decide)
    show D.tup [_, .val (.int .i64 (bstR a b c bs (cn : Int)).2.1), .val (.int .i64 (bstR a b c bs (cn : Int)).2.2)] = _
    rw [hr]
    rfl

noncomputable abbrev s_S_BestHeights : Spec ((Int × Int × Int) × List Bk × Int) where
  args := fun x => [pegs x.1, .sl 8 (bks x.2.1), .val (.int .i64 x.2.2)]
  pre := fun x => isPegs x.1 ∧ ((∀ b ∈ x.2.1, isBk b) ∧ x.2.1.length ≤ 1048576) ∧ -9223372036854775808 ≤ x.2.2 ∧ x.2.2 ≤ 9223372036854775807
  new := fun x => [⟨2, 1, false, i64s ((bstR x.1.1 x.1.2.1 x.1.2.2 x.2.1 x.2.2).1)⟩]
  res := fun x => .tup [.own 0, .val (.int .i64 (bstR x.1.1 x.1.2.1 x.1.2.2 x.2.1 x.2.2).2.1), .val (.int .i64 (bstR x.1.1 x.1.2.1 x.1.2.2 x.2.1 x.2.2).2.2)]

set_option maxRecDepth 20000 in
set_option maxHeartbeats 1000000 in
theorem ok_S_BestHeights : FnOk Pr 11 s_S_BestHeights := by
 refine fn_ok 3 0 T0_ok Go.Proofs.Tryz.func11 rfl (enters_of Go.Proofs.Tryz.func11 rfl rfl) (fun _ => rfl) (fun _ => rfl) (fun _ => rfl) ?_
 rintro ⟨⟨a, b, c⟩, bs, count⟩ ⟨hp, ⟨hv, hl⟩, hcl, hch⟩ C hP hN hm hG
 change awp C _ _ ⟨[(0, .val (.agg #[.int .i16 a, .int .i16 b, .int .i16 c])), (1, .sl 8 (bks bs)), (2, .val (.int .i64 count))], [], 0⟩
 simp only at hv hl hcl hch
 have hhl := htsI_len a b bs
 refine awp_seq ?_
 refine r1 T0_ok hP hm hN ?_
 iterate 4 refine g1 ?_
 refine awp_seq ?_
 refine r1 T0_ok hP hm hN ?_
 iterate 2 refine g1 ?_
 refine gc1 ?_ (call1 ok_S_l04Books ((_, _, _), _) [] (hpre := by (try dsimp only); exact ⟨hp, hv, by omega⟩))
 refine g1 ?_
 refine awp_seq ?_
 refine awp_seq ?_
 refine r1 T0_ok hP hm hN ?_
 iterate 3 refine g1 ?_
 refine gg1 ?_
 refine ggc1 ?_ (hs := by intro hb; simp +decide only [hb, gd_tt, gd_ff, beq_self_eq_true, Bool.true_and, beq_true]; exact ⟨rfl, _, call1 ok_S_l00In (_, _, _) [], rfl, rfl, rfl⟩)
 refine gg1 ?_
 refine g1 ?_
 refine awp_cond rfl (fun hc0 => ?_) (fun hc0 => ?_)
 ·
  refine r1 T0_ok hP hm hN ?_
  refine g1 ?_
  refine awp_seq ?_
  refine awp_seq ?_
  refine r1 T0_ok hP hm hN ?_
  iterate 2 refine g1 ?_
  refine awp_cond rfl (fun h24 => ?_) (fun h24 => ?_)
  ·
   first | have hr : bstR a b c bs count = ([], 0, bksC a b c bs) := (by
       have hb := bksC_one (by simpa using h24)
       rw [bstR, if_pos hb.1, hb.2]) | have hr : bstR a b c bs count = ([], 0, 2) := (by
       simp only [Bool.and_eq_true, beq_iff_eq] at hc0
       rw [bstR, if_neg (by rw [bksC_zero hc0.1]; simp), if_pos hc0.2])
   refine awp_seq ?_
   refine r1 T0_ok hP hm hN ?_
   refine g1 ?_ (hst := by simp +decide (disch := omega) only [nrm, lk_nrm, dc_nrm, mk_nrm, mf_nrm, ti_nrm, ls_nrm, mp_nrm, nb_nrm, hset, pick_and, pick_or, ↓reduceIte, Nat.reduceAdd, wI64, wI32, wI16, wI8, wU8, List.length_map, Int.toNat_natCast, xn1, xn2, List.all_nil, Bool.not_true]; rfl)
   iterate 4 refine g1 ?_
   refine awp_ret ?_
   refine fin_mk [1] rfl rfl ?_ (by simp only [hr]; exact objs_cons rfl rfl rfl rfl rfl (.inl rfl) objs_nil) (by decide)
   show D.tup [_, .val (.int .i64 (bstR a b c bs count).2.1), .val (.int .i64 (bstR a b c bs count).2.2)] = _
   rw [hr]
   rfl
  ·
   have hg0 : bksC a b c bs = 0 := by first | exact absurd h24 (by decide) |  (simpa using h24)
   have hin0 : (!inI count 1 6) = false := by first | exact absurd h24 (by decide) |  (rw [hg0] at hc0; simpa using hc0)
   have hgd0 := bksC_zero hg0
   have hgd := okb hgd0
   obtain ⟨hok, hvb, hl60⟩ := hgd
   obtain ⟨hob, -⟩ := validBs_b2 hvb
   have hin : 1 ≤ count ∧ count ≤ 6 := inI_iff.1 (by simpa using hin0)
   obtain ⟨cn, hcn⟩ : ∃ cn : Nat, count = (cn : Int) := ⟨count.toNat, by omega⟩
   subst hcn
   refine awp_skip ?_
   refine awp_seq ?_
   refine r1 T0_ok hP hm hN ?_
   iterate 2 refine g1 ?_
   refine gc1 ?_ (call1 ok_S_l04Heights ((_, _, _), _) [] (hpre := by (try dsimp only); exact ⟨hok, hp, hv, by omega⟩))
   refine g1 ?_
   refine awp_seq ?_
   refine awp_seq ?_
   refine r1 T0_ok hP hm hN ?_
   iterate 4 refine g1 ?_
   refine awp_cond rfl (fun h33 => ?_) (fun h33 => ?_)
   ·
    have hlt : ((htsI a b bs).length : Int) < (cn : Int) := by simpa using h33
    have hr : bstR a b c bs (cn : Int) = ([], 0, 6) := by rw [bstR, if_neg (by rw [hgd0]; simp), if_neg (by rw [hin0]; simp), if_pos (by simpa using hlt)]
    refine awp_seq ?_
    refine r1 T0_ok hP hm hN ?_
    refine g1 ?_ (hst := by simp +decide (disch := omega) only [nrm, lk_nrm, dc_nrm, mk_nrm, mf_nrm, ti_nrm, ls_nrm, mp_nrm, nb_nrm, hset, pick_and, pick_or, ↓reduceIte, Nat.reduceAdd, wI64, wI32, wI16, wI8, wU8, List.length_map, Int.toNat_natCast, xn1, xn2, List.all_nil, Bool.not_true]; rfl)
    iterate 3 refine g1 ?_
    refine awp_ret ?_
    refine fin_mk [2] rfl rfl ?_ (by simp only [hr]; exact objs_cons rfl rfl rfl rfl rfl (.inl rfl) objs_nil) (by decide)
    show D.tup [_, .val (.int .i64 (bstR a b c bs (cn : Int)).2.1), .val (.int .i64 (bstR a b c bs (cn : Int)).2.2)] = _
    rw [hr]
    rfl
   ·
    have hge : ¬ ((htsI a b bs).length : Int) < (cn : Int) := by simpa using h33
    have hbe := best_eq hok hob hl60 (show 1 ≤ cn by omega) (by omega) (by omega)
    have hr : bstR a b c bs (cn : Int) = (bestLS (htsI a b bs) bs cn, FS (wF bs (0 :: htsI a b bs)) (htsI a b bs).length cn 0, 0) := by rw [bstR, if_neg (by rw [hgd0]; simp), if_neg (by rw [hin0]; simp), if_neg (by simpa using hge), Int.toNat_natCast, hbe.1, hbe.2.1]
    refine awp_skip ?_
    refine awp_seq ?_
    refine r1 T0_ok hP hm hN ?_
    iterate 3 refine g1 ?_
    refine gc1 ?_ (call1 ok_S_l04Best (_, _, cn) [] (hpre := by (try dsimp only); exact ⟨⟨htsI_ok hok hob, hv, hob, hl60⟩, by omega, by omega, by omega⟩))
    iterate 5 refine g1 ?_
    refine awp_seq ?_
    refine r1 T0_ok hP hm hN ?_
    iterate 5 refine g1 ?_
    refine awp_ret ?_
    refine fin_mk [2] rfl rfl ?_ (by simp only [hr]; exact objs_cons rfl rfl rfl rfl rfl (.inl rfl) objs_nil) (by decide)
    show D.tup [_, .val (.int .i64 (bstR a b c bs (cn : Int)).2.1), .val (.int .i64 (bstR a b c bs (cn : Int)).2.2)] = _
    rw [hr]
    rfl
 ·
  refine awp_skip ?_
  refine awp_seq ?_
  refine awp_seq ?_
  refine r1 T0_ok hP hm hN ?_
  iterate 2 refine g1 ?_
  refine awp_cond rfl (fun h24 => ?_) (fun h24 => ?_)
  ·
   first | have hr : bstR a b c bs count = ([], 0, bksC a b c bs) := (by
       have hb := bksC_one (by simpa using h24)
       rw [bstR, if_pos hb.1, hb.2]) | have hr : bstR a b c bs count = ([], 0, 2) := (by
       simp only [Bool.and_eq_true, beq_iff_eq] at hc0
       rw [bstR, if_neg (by rw [bksC_zero hc0.1]; simp), if_pos hc0.2])
   refine awp_seq ?_
   refine r1 T0_ok hP hm hN ?_
   refine g1 ?_ (hst := by simp +decide (disch := omega) only [nrm, lk_nrm, dc_nrm, mk_nrm, mf_nrm, ti_nrm, ls_nrm, mp_nrm, nb_nrm, hset, pick_and, pick_or, ↓reduceIte, Nat.reduceAdd, wI64, wI32, wI16, wI8, wU8, List.length_map, Int.toNat_natCast, xn1, xn2, List.all_nil, Bool.not_true]; rfl)
   iterate 4 refine g1 ?_
   refine awp_ret ?_
   refine fin_mk [1] rfl rfl ?_ (by simp only [hr]; exact objs_cons rfl rfl rfl rfl rfl (.inl rfl) objs_nil) (by decide)
   show D.tup [_, .val (.int .i64 (bstR a b c bs count).2.1), .val (.int .i64 (bstR a b c bs count).2.2)] = _
   rw [hr]
   rfl
  ·
   have hg0 : bksC a b c bs = 0 := by first | exact absurd h24 (by decide) |  (simpa using h24)
   have hin0 : (!inI count 1 6) = false := by first | exact absurd h24 (by decide) |  (rw [hg0] at hc0; simpa using hc0)
   have hgd0 := bksC_zero hg0
   have hgd := okb hgd0
   obtain ⟨hok, hvb, hl60⟩ := hgd
   obtain ⟨hob, -⟩ := validBs_b2 hvb
   have hin : 1 ≤ count ∧ count ≤ 6 := inI_iff.1 (by simpa using hin0)
   obtain ⟨cn, hcn⟩ : ∃ cn : Nat, count = (cn : Int) := ⟨count.toNat, by omega⟩
   subst hcn
   refine awp_skip ?_
   refine awp_seq ?_
   refine r1 T0_ok hP hm hN ?_
   iterate 2 refine g1 ?_
   refine gc1 ?_ (call1 ok_S_l04Heights ((_, _, _), _) [] (hpre := by (try dsimp only); exact ⟨hok, hp, hv, by omega⟩))
   refine g1 ?_
   refine awp_seq ?_
   refine awp_seq ?_
   refine r1 T0_ok hP hm hN ?_
   iterate 4 refine g1 ?_
   refine awp_cond rfl (fun h33 => ?_) (fun h33 => ?_)
   ·
    have hlt : ((htsI a b bs).length : Int) < (cn : Int) := by simpa using h33
    have hr : bstR a b c bs (cn : Int) = ([], 0, 6) := by rw [bstR, if_neg (by rw [hgd0]; simp), if_neg (by rw [hin0]; simp), if_pos (by simpa using hlt)]
    refine awp_seq ?_
    refine r1 T0_ok hP hm hN ?_
    refine g1 ?_ (hst := by simp +decide (disch := omega) only [nrm, lk_nrm, dc_nrm, mk_nrm, mf_nrm, ti_nrm, ls_nrm, mp_nrm, nb_nrm, hset, pick_and, pick_or, ↓reduceIte, Nat.reduceAdd, wI64, wI32, wI16, wI8, wU8, List.length_map, Int.toNat_natCast, xn1, xn2, List.all_nil, Bool.not_true]; rfl)
    iterate 3 refine g1 ?_
    refine awp_ret ?_
    refine fin_mk [2] rfl rfl ?_ (by simp only [hr]; exact objs_cons rfl rfl rfl rfl rfl (.inl rfl) objs_nil) (by decide)
    show D.tup [_, .val (.int .i64 (bstR a b c bs (cn : Int)).2.1), .val (.int .i64 (bstR a b c bs (cn : Int)).2.2)] = _
    rw [hr]
    rfl
   ·
    have hge : ¬ ((htsI a b bs).length : Int) < (cn : Int) := by simpa using h33
    have hbe := best_eq hok hob hl60 (show 1 ≤ cn by omega) (by omega) (by omega)
    have hr : bstR a b c bs (cn : Int) = (bestLS (htsI a b bs) bs cn, FS (wF bs (0 :: htsI a b bs)) (htsI a b bs).length cn 0, 0) := by rw [bstR, if_neg (by rw [hgd0]; simp), if_neg (by rw [hin0]; simp), if_neg (by simpa using hge), Int.toNat_natCast, hbe.1, hbe.2.1]
    refine awp_skip ?_
    refine awp_seq ?_
    refine r1 T0_ok hP hm hN ?_
    iterate 3 refine g1 ?_
    refine gc1 ?_ (call1 ok_S_l04Best (_, _, cn) [] (hpre := by (try dsimp only); exact ⟨⟨htsI_ok hok hob, hv, hob, hl60⟩, by omega, by omega, by omega⟩))
    iterate 5 refine g1 ?_
    refine awp_seq ?_
    refine r1 T0_ok hP hm hN ?_
    iterate 5 refine g1 ?_
    refine awp_ret ?_
    refine fin_mk [2] rfl rfl ?_ (by simp only [hr]; exact objs_cons rfl rfl rfl rfl rfl (.inl rfl) objs_nil) (by decide)
    show D.tup [_, .val (.int .i64 (bstR a b c bs (cn : Int)).2.1), .val (.int .i64 (bstR a b c bs (cn : Int)).2.2)] = _
    rw [hr]
    rfl
end Go.Proofs.YtheoapoddmmahaaGreat.Abs

