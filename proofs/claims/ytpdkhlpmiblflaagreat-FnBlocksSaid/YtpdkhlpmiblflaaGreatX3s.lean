import Derived.Test.YtpdkhlpmiblflaaGreatX3n
set_option linter.unusedVariables false
set_option linter.unusedSimpArgs false
namespace Go.Proofs.YtpdkhlpmiblflaaGreat.Abs
open Go Go.RowKit
noncomputable def wayX (xs : List Bk) (m : Nat) : List B3 × Nd := wayB (ordN xs).length (sortI (ordN xs)) m (ordN xs)
def b3I (b : B3) : Blk := ((b.1 : Int), (b.2.1 : Int), (b.2.2 : Int))
noncomputable def bfR (xs : List Bk) : List Blk × Int := if (codeK xs != 0) = true then ([], codeK xs) else ((wayX xs (farX xs (ordN xs))).1.map b3I, 0)
theorem brs_b3I (l : List B3) : brs (l.map b3I) = b3s l := by rw [brs, List.map_map]; rfl
theorem wayX_0 (xs : List Bk) : wayX xs 0 = ([], ordN xs) := by unfold wayX wayB; rfl
theorem farX_eq (xs : List Bk) (x : Nd) : farX xs x = dpt (endB (ordN xs).length (sortI (ordN xs))) x := by rw [farX_def, ordN_len]
structure WayP (xs : List Bk) (m : Nat) (l : List B3) (x : Nd) : Prop where
  h0 : okN (ordN xs).length (sortI (ordN xs))
  pm : x.Perm (sortI (ordN xs))
  ok : okN (ordN xs).length x
  lt : dpt (endB (ordN xs).length (sortI (ordN xs))) x + m = farX xs (ordN xs)
  ln : l.length = m
theorem wayP {xs : List Bk} (h : xs.length ≤ 6) {m : Nat} (hm : m ≤ farX xs (ordN xs)) : WayP xs m (wayX xs m).1 (wayX xs m).2 := by
  have h6 : (ordN xs).length ≤ 6 := by rw [ordN_len]; exact h
  have h0 : okN (ordN xs).length (sortI (ordN xs)) := by rw [ordN_len]; exact okN_sort (okN_ord h)
  rw [farX_eq] at hm
  obtain ⟨h1, h2, h3⟩ := way_inv h6 h0 (sortI_perm (ordN xs)).symm m hm
  exact ⟨h0, h1, okN_perm h0 h1, by rw [farX_eq]; exact h2, h3⟩
theorem wayX_suc {xs : List Bk} (h : xs.length ≤ 6) {m : Nat} (hm : m < farX xs (ordN xs)) : wayX xs (m + 1) = ((wayX xs m).1 ++ [nrB (ordN xs).length (sortI (ordN xs)) (wayX xs m).2], mvN (wayX xs m).2 (nrB (ordN xs).length (sortI (ordN xs)) (wayX xs m).2)) := by
  have h6 : (ordN xs).length ≤ 6 := by rw [ordN_len]; exact h
  have hp := wayP h (Nat.le_of_lt hm)
  have hlt := hp.lt
  obtain ⟨b, e1, e2, e3⟩ := near_ex h6 hp.h0 hp.pm (by omega)
  have e4 : nrB (ordN xs).length (sortI (ordN xs)) (wayX xs m).2 = b := by rw [nrB, e1]; rfl
  rw [e4]
  have e1' : nearB (ordN xs).length (sortI (ordN xs)) (wayB (ordN xs).length (sortI (ordN xs)) m (ordN xs)).2 = some b := e1
  show wayB _ _ (m + 1) _ = _
  simp only [wayB, e1']
  rfl
attribute [local irreducible] farX wayX dpt

noncomputable abbrev s_S_BlocksFor : Spec (List Bk) where
  args := fun xs => [.sl 8 (bks xs)]
  pre := fun xs => (∀ b ∈ xs, isBk b) ∧ xs.length ≤ 1048576
  new := fun xs => [⟨40, 3, false, brs (bfR xs).1⟩]
  res := fun xs => .tup [.own 0, .val (.int .i64 (bfR xs).2)]

set_option maxRecDepth 20000 in
set_option maxHeartbeats 8000000 in
theorem ok_S_BlocksFor : FnOk Pr 9 s_S_BlocksFor := by
 refine fn_ok0 1 T0_ok Go.Proofs.Tryz.func9 rfl (enters_of Go.Proofs.Tryz.func9 rfl rfl) (fun _ => rfl) (fun _ => rfl) (fun _ => rfl) ?_
 rintro xs ⟨hv, hl⟩ C hP hN hm hG hS0
 change awp C _ _ ⟨[(0, .sl 8 (bks xs))], [], 0⟩
 refine awp_seq ?_
 refine r1 T0_ok hP hm hN ?_
 iterate 2 refine g1 ?_
 refine awp_seq ?_
 refine awp_seq ?_
 refine r1 T0_ok hP hm hN ?_
 refine g1 ?_
 refine gc1 ?_ (call1 ok_S_l03Small _ [] (hpre := by (try dsimp only); exact ⟨hv, hl⟩))
 refine g1 ?_
 refine awp_seq ?_
 refine r1 T0_ok hP hm hN ?_
 iterate 2 refine g1 ?_
 refine awp_cond rfl (fun hc0 => ?_) (fun hc0 => ?_)
 ·
  have hr : bfR xs = ([], codeK xs) := by rw [bfR, if_pos hc0]
  refine awp_seq ?_
  refine r1 T0_ok hP hm hN ?_
  refine g1 ?_ (hst := by simp +decide (disch := omega) only [nrm, lk_nrm, dc_nrm, mk_nrm, mf_nrm, ti_nrm, ls_nrm, mp_nrm, nb_nrm, hset, pick_and, pick_or, ↓reduceIte, Nat.reduceAdd, wI64, wI32, wI16, wI8, wU8, List.length_map, Int.toNat_natCast, xn1, xn2, List.all_nil, Bool.not_true]; rfl)
  iterate 3 refine g1 ?_
  refine awp_ret ?_
  refine fin_mk [0] rfl rfl ?_ (by first | (simp only [hfin]; exact objs_cons rfl rfl rfl rfl rfl (.inl rfl) objs_nil) | (simp only [hr]; exact objs_cons rfl rfl rfl rfl rfl (.inl rfl) objs_nil)) (by decide)
  show D.tup [_, .val (.int .i64 (bfR xs).2)] = _
  rw [hr]
  rfl
 ·
  have hr : bfR xs = ((wayX xs (farX xs (ordN xs))).1.map b3I, 0) := by rw [bfR, if_neg (by rw [hc0]; simp)]
  obtain ⟨h6, hk0⟩ := codeK_ok hc0
  have hol := ordN_len xs
  have hoko := okN_ord h6
  have hokx : okN (ordN xs).length (ordN xs) := by rw [hol]; exact hoko
  have hcc := code6_lt h6 hoko
  have hfl := farC_len (ordN xs).length (endB (ordN xs).length (sortI (ordN xs))).2
  have hfx0 := farX_le h6 (List.Perm.refl (ordN xs))
  refine awp_skip ?_
  refine awp_seq ?_
  refine r1 T0_ok hP hm hN ?_
  refine g1 ?_
  refine gc1 ?_ (call1 ok_S_l03Order xs [] (hpre := by (try dsimp only); exact ⟨hv, by omega⟩))
  refine g1 ?_
  refine awp_seq ?_
  refine r1 T0_ok hP hm hN ?_
  refine g1 ?_
  refine gc1 ?_ (call1 ok_S_l03Far _ [] (hpre := by (try dsimp only); exact ⟨hokx, by omega⟩))
  refine g1 ?_
  refine awp_seq ?_
  refine awp_weak (show Weak C _ ⟨[(5, .sl 1 (i64s (ordN xs))), (6, .own 1)], [(1, ⟨33, 1, false, ints .i8 (farC (ordN xs).length (endB (ordN xs).length (sortI (ordN xs))).2)⟩)], 2⟩ from Weak.trans (weak_frz 0 hS0 hG rfl (.inl rfl)) (Weak.trans (weak_nx (nx' := 2) (by omega) (by rfl)) (weak_sl (sub_cons rfl (sub_cons rfl (sub_nil)))))) ?_
  refine r1 T0_ok hP hm hN ?_
  refine g1 ?_ (hst := by simp +decide (disch := omega) only [nrm, lk_nrm, dc_nrm, mk_nrm, mf_nrm, ti_nrm, ls_nrm, mp_nrm, nb_nrm, hset, pick_and, pick_or, ↓reduceIte, Nat.reduceAdd, wI64, wI32, wI16, wI8, wU8, List.length_map, Int.toNat_natCast, xn1, xn2, List.all_nil, Bool.not_true]; rfl)
  refine g1 ?_
  refine awp_seq ?_
  refine awp_block ?_
  refine awp_loop (fun n st => ∃ (m : Nat) (W : List B3 × Nd), W = wayX xs m ∧ m ≤ farX xs (ordN xs) ∧ n = farX xs (ordN xs) - m ∧ st = ⟨[(7, .own 2), (6, .own 1), (5, .sl 1 (i64s W.2))], [(2, ⟨40, 3, false, b3s W.1⟩), (1, ⟨33, 1, false, ints .i8 (farC (ordN xs).length (endB (ordN xs).length (sortI (ordN xs))).2)⟩)], 3⟩) (farX xs (ordN xs)) ⟨_, weak_sl (sub_cons rfl (sub_cons rfl (sub_cons rfl (sub_nil)))), 0, ([], ordN xs), (wayX_0 xs).symm, Nat.zero_le _, (Nat.sub_zero _).symm, rfl⟩ ?_
  rintro n st ⟨m, W, hW, hmq, hn, rfl⟩
  have hP1 := wayP h6 hmq
  rw [← hW] at hP1
  have hWl := hP1.ok.1
  have hlt := hP1.lt
  have hln := hP1.ln
  have hcw := code6_lt (by omega) hP1.ok
  obtain ⟨hcell, hdx⟩ := far_cell2 (show (ordN xs).length ≤ 6 by omega) hP1.h0 hP1.pm
  refine awp_seq ?_
  refine awp_seq ?_
  refine r1 T0_ok hP hm hN ?_
  iterate 2 refine g1 ?_
  refine gc1 ?_ (call1 ok_S_l03Code _ [] (hpre := by (try dsimp only); exact ⟨by rw [hWl]; exact hP1.ok, by omega⟩))
  refine g1 ?_ (hpre := by exact ⟨rfl, by omega, (by simp only [List.length_map]; omega)⟩)
  refine g1 ?_ (hst := by simp +decide (disch := omega) only [nrm, lk_nrm, dc_nrm, mk_nrm, mf_nrm, ti_nrm, ls_nrm, mp_nrm, nb_nrm, hset, pick_and, pick_or, ↓reduceIte, Nat.reduceAdd, wI64, wI32, wI16, wI8, wU8, List.length_map, Int.toNat_natCast, xn1, xn2, hcell]; rfl)
  refine g1 ?_
  refine awp_cond rfl (fun hc1 => ?_) (fun hc1 => ?_)
  ·
   have hgt : 0 < dpt (endB (ordN xs).length (sortI (ordN xs))) W.2 := by simp at hc1; omega
   refine awp_skip ?_
   refine awp_block ?_
   refine awp_seq ?_
   refine r1 T0_ok hP hm hN ?_
   iterate 2 refine g1 ?_
   refine gc1 ?_ (call1 ok_S_l03Nearer ((ordN xs).length, sortI (ordN xs), W.2) [] (hpre := by (try dsimp only); exact ⟨by omega, hP1.h0, hP1.pm, by omega⟩) (hfo := by exact fm_cons (flat_i64s _ _ _ _) fm_nil))
   iterate 6 refine g1 ?_
   refine awp_seq ?_
   refine r1 T0_ok hP hm hN ?_
   iterate 3 refine g1 ?_
   refine ga1 ?_
   refine g1 ?_
   refine r1 T0_ok hP hm hN ?_
   iterate 2 refine g1 ?_
   obtain ⟨nb, hnb⟩ : ∃ z, nrB (ordN xs).length (sortI (ordN xs)) W.2 = z := ⟨_, rfl⟩
   have hWn : wayX xs (m + 1) = (W.1 ++ [nb], mvN W.2 nb) := by rw [wayX_suc h6 (by omega), ← hW, hnb]
   refine ⟨farX xs (ordN xs) - (m + 1), _, by omega, ?_, m + 1, (W.1 ++ [nb], mvN W.2 nb), hWn.symm, by omega, rfl, rfl⟩
   rw [hnb]
   dsimp only
   rw [b3s_app]
   exact Weak.trans (weak_frz 3 hS0 hG rfl (.inl rfl)) (Weak.trans (weak_drop 4) (Weak.trans (weak_drop 5) (Weak.trans (weak_nx (nx' := 3) (by omega) (by rfl)) (weak_sl (sub_cons rfl (sub_cons rfl (sub_cons rfl (sub_nil))))))))
  ·
   have hz : dpt (endB (ordN xs).length (sortI (ordN xs))) W.2 = 0 := by simp at hc1; omega
   have hmf : m = farX xs (ordN xs) := by omega
   have hfin : brs (bfR xs).1 = b3s W.1 := by rw [hr, hW, hmf]; exact brs_b3I _
   refine awp_exit ?_
   repeat refine thenA_exit ?_
   refine blockA_hit ?_
   refine awp_seq ?_
   refine r1 T0_ok hP hm hN ?_
   iterate 3 refine g1 ?_
   refine awp_ret ?_
   refine fin_mk [2] rfl rfl ?_ (by first | (simp only [hfin]; exact objs_cons rfl rfl rfl rfl rfl (.inl rfl) objs_nil) | (simp only [hr]; exact objs_cons rfl rfl rfl rfl rfl (.inl rfl) objs_nil)) (by decide)
   show D.tup [_, .val (.int .i64 (bfR xs).2)] = _
   rw [hr]
   rfl
end Go.Proofs.YtpdkhlpmiblflaaGreat.Abs

