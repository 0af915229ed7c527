import Derived.Test.YtpdkhlpmiblflaaGreatX2
set_option linter.unusedVariables false
set_option linter.unusedSimpArgs false
namespace Go.Proofs.YtpdkhlpmiblflaaGreat.Abs
open Go Go.RowKit
theorem far_cell {xs : List Bk} (h : xs.length ≤ 6) {x : Nd} (hx : x.Perm (ordN xs)) : (farC (ordN xs).length (endB (ordN xs).length (sortI (ordN xs))).2).getD (code6 x).toNat 0 = ((farX xs x : Nat) : Int) + 1 := by
  rw [ordN_len]
  have h0 := okN_sort (okN_ord h)
  have hp : x.Perm (sortI (ordN xs)) := hx.trans (sortI_perm _).symm
  rw [farC_get h _ (okN_perm h0 hp), end_some h h0 hp, farX_def]; rfl
theorem farX_le {xs : List Bk} (h : xs.length ≤ 6) {x : Nd} (hx : x.Perm (ordN xs)) : farX xs x ≤ 6 := by
  have h0 := okN_sort (okN_ord h)
  rw [farX_def]
  exact Nat.le_trans (end_all h h0 (hx.trans (sortI_perm _).symm)).2 h
theorem cancel1 (a : Int) : a + 1 - 1 = a := by omega

noncomputable abbrev s_S_LeastBlocks : Spec (List Bk) where
  args := fun xs => [.sl 8 (bks xs)]
  pre := fun xs => (∀ b ∈ xs, isBk b) ∧ xs.length ≤ 1048576
  res := fun xs => .tup [.val (.int .i64 (lbR xs).1), .val (.int .i64 (lbR xs).2)]

set_option maxRecDepth 20000 in
set_option maxHeartbeats 4000000 in
theorem ok_S_LeastBlocks : FnOk Pr 7 s_S_LeastBlocks := by
 refine fn_ok 1 0 T0_ok Go.Proofs.Tryz.func7 rfl (enters_of Go.Proofs.Tryz.func7 rfl rfl) (fun _ => rfl) (fun _ => rfl) (fun _ => rfl) ?_
 rintro xs ⟨hv, hl⟩ C hP hN hm hG
 change awp C _ _ ⟨[(0, .sl 8 (bks xs))], [], 0⟩
 have xn1 := @cancel1
 refine awp_seq ?_
 refine r1 T0_ok hP hm hN ?_
 iterate 2 refine g1 ?_
 refine awp_seq ?_
 refine awp_seq ?_
 refine r1 T0_ok hP hm hN ?_
 refine g1 ?_
 refine gc1 ?_ (call1 ok_S_l03Small _ [] (hpre := by (try dsimp only); exact ⟨hv, hl⟩))
 refine g1 ?_
 refine awp_seq ?_
 refine r1 T0_ok hP hm hN ?_
 iterate 2 refine g1 ?_
 refine awp_cond rfl (fun hc0 => ?_) (fun hc0 => ?_)
 ·
  have hr : lbR xs = (0, codeK xs) := by rw [lbR, if_pos hc0]
  refine awp_seq ?_
  refine r1 T0_ok hP hm hN ?_
  iterate 3 refine g1 ?_
  refine awp_ret ?_
  refine fin_mk [] rfl rfl ?_ trivial (by decide)
  show D.tup [.val (.int .i64 (lbR xs).1), .val (.int .i64 (lbR xs).2)] = _
  rw [hr]
  rfl
 ·
  have hr : lbR xs = (((farX xs (ordN xs) : Nat) : Int), 0) := by rw [lbR, if_neg (by rw [hc0]; simp)]
  obtain ⟨h6, hk0⟩ := codeK_ok hc0
  have hol := ordN_len xs
  have hoko := okN_ord h6
  have hokx : okN (ordN xs).length (ordN xs) := by rw [hol]; exact hoko
  have hcc := code6_lt h6 hoko
  have hfl := farC_len (ordN xs).length (endB (ordN xs).length (sortI (ordN xs))).2
  have hcell := far_cell h6 (List.Perm.refl (ordN xs))
  have hfx := farX_le h6 (List.Perm.refl (ordN xs))
  refine awp_skip ?_
  refine awp_seq ?_
  refine r1 T0_ok hP hm hN ?_
  refine g1 ?_
  refine gc1 ?_ (call1 ok_S_l03Order xs [] (hpre := by (try dsimp only); exact ⟨hv, by omega⟩))
  refine g1 ?_
  refine awp_seq ?_
  refine r1 T0_ok hP hm hN ?_
  refine g1 ?_
  refine gc1 ?_ (call1 ok_S_l03Far _ [] (hpre := by (try dsimp only); exact ⟨hokx, by omega⟩))
  refine g1 ?_
  refine awp_seq ?_
  refine r1 T0_ok hP hm hN ?_
  iterate 2 refine g1 ?_
  refine gc1 ?_ (call1 ok_S_l03Code _ [] (hpre := by (try dsimp only); exact ⟨hokx, by omega⟩))
  refine g1 ?_ (hpre := by exact ⟨rfl, by omega, (by simp only [List.length_map]; omega)⟩)
  refine g1 ?_ (hst := by simp +decide (disch := omega) only [nrm, lk_nrm, dc_nrm, mk_nrm, mf_nrm, ti_nrm, ls_nrm, mp_nrm, nb_nrm, hset, pick_and, pick_or, ↓reduceIte, Nat.reduceAdd, wI64, wI32, wI16, wI8, wU8, List.length_map, Int.toNat_natCast, xn1, xn2, hcell]; rfl)
  iterate 4 refine g1 ?_
  refine awp_ret ?_
  refine fin_mk [] rfl rfl ?_ trivial (by decide)
  show D.tup [.val (.int .i64 (lbR xs).1), .val (.int .i64 (lbR xs).2)] = _
  rw [hr]
  rfl
end Go.Proofs.YtpdkhlpmiblflaaGreat.Abs

