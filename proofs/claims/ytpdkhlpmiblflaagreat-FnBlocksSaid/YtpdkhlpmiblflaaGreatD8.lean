import Derived.Test.YtpdkhlpmiblflaaGreatD7
set_option linter.unusedVariables false
set_option linter.unusedSimpArgs false
namespace Go.Proofs.YtpdkhlpmiblflaaGreat.Abs
open Go Go.RowKit
noncomputable def codeK (xs : List Bk) : Int := if (!validBs xs) = true then 1 else if decide ((xs.length : Int) > 6) = true then 3 else 0
theorem codeK_ok {xs : List Bk} (h : (codeK xs != 0) = false) : xs.length ≤ 6 ∧ codeK xs = 0 := by
  have h0 : codeK xs = 0 := by simpa using h
  refine ⟨?_, h0⟩
  unfold codeK at h0
  split at h0
  · cases h0
  · split at h0
    · cases h0
    · rename_i h2; simp at h2; omega
theorem rankN_lt {xs : List Bk} {b : Bk} (hb : b ∈ xs) : rankN xs b < xs.length := by
  unfold rankN cntB
  rw [List.take_length]
  refine List.length_filter_lt_length_iff_exists.2 ⟨b, hb, ?_⟩
  have : cmpU b b = 0 := by have := cmpU_anti b b; omega
  simp [this]
theorem ordN_len (xs : List Bk) : (ordN xs).length = xs.length := by simp [ordN]
theorem okN_ord {xs : List Bk} (h : xs.length ≤ 6) : okN xs.length (ordN xs) := ⟨ordN_len xs, fun r hr => by
  obtain ⟨b, hb, rfl⟩ := List.mem_map.1 hr
  have := rankN_lt hb
  omega⟩
theorem farX_ex (xs : List Bk) (x : Nd) : ∃ n, n = dpt (endB xs.length (sortI (ordN xs))) x := ⟨_, rfl⟩
noncomputable def farX (xs : List Bk) (x : Nd) : Nat := (farX_ex xs x).choose
theorem farX_def (xs : List Bk) (x : Nd) : farX xs x = dpt (endB xs.length (sortI (ordN xs))) x := (farX_ex xs x).choose_spec
noncomputable def lbR (xs : List Bk) : Int × Int := if (codeK xs != 0) = true then (0, codeK xs) else (((farX xs (ordN xs) : Nat) : Int), 0)
theorem fM_far {xs : List Bk} (h : xs.length ≤ 6) {x : Nd} (hx : x.Perm (ordN xs)) : (fM (endB xs.length (sortI (ordN xs))).2 (strOfNums (tx x))).getD 0 = ((farX xs x : Nat) : Int) := by
  have h0 := okN_sort (okN_ord h)
  have hp : x.Perm (sortI (ordN xs)) := hx.trans (sortI_perm _).symm
  rw [fM_at (okN_perm h0 hp), end_some h h0 hp, farX_def]; rfl
abbrev mpE2 (xs : List Bk) : D := .mp none (MapS Pr 9 3 (fM (endB xs.length (sortI (ordN xs))).2) 46656)

noncomputable abbrev s_I_blockCode : Spec (List Bk) where
  args := fun xs => [.sl 8 (bks xs)]
  pre := fun xs => (∀ b ∈ xs, isBk b) ∧ xs.length ≤ 1048576
  res := fun xs => .val (.int .i64 (codeK xs))

set_option maxRecDepth 20000 in
set_option maxHeartbeats 1000000 in
theorem ok_I_blockCode : FnOk Pr 22 s_I_blockCode := by
 refine fn_ok 1 0 T0_ok Go.Proofs.Tryz.func22 rfl (enters_of Go.Proofs.Tryz.func22 rfl rfl) (fun _ => rfl) (fun _ => rfl) (fun _ => rfl) ?_
 rintro xs ⟨hv, hl⟩ C hP hN hm hG
 change awp C _ _ ⟨[(0, .sl 8 (bks xs))], [], 0⟩
 refine awp_seq ?_
 refine r1 T0_ok hP hm hN ?_
 refine g1 ?_
 refine awp_seq ?_
 refine awp_block ?_
 refine awp_seq ?_
 refine r1 T0_ok hP hm hN ?_
 refine g1 ?_
 refine gc1 ?_ (call1 ok_I_ValidBooks _ [] (hpre := by (try dsimp only); omega))
 iterate 2 refine g1 ?_
 refine awp_cond rfl (fun hc0 => ?_) (fun hc0 => ?_)
 ·
  have hr : codeK xs = 1 := by rw [codeK, if_pos hc0]
  refine awp_seq ?_
  refine r1 T0_ok hP hm hN ?_
  refine g1 ?_
  refine awp_ret ?_
  refine fin_mk [] rfl rfl ?_ trivial (by decide)
  show D.val (.int .i64 (codeK xs)) = _
  rw [hr]
  rfl
 ·
  refine awp_seq ?_
  refine r1 T0_ok hP hm hN ?_
  iterate 4 refine g1 ?_
  refine awp_cond rfl (fun hc1 => ?_) (fun hc1 => ?_)
  ·
   have hr : codeK xs = 3 := by rw [codeK, if_neg (by rw [hc0]; simp), if_pos hc1]
   refine awp_seq ?_
   refine r1 T0_ok hP hm hN ?_
   refine g1 ?_
   refine awp_ret ?_
   refine fin_mk [] rfl rfl ?_ trivial (by decide)
   show D.val (.int .i64 (codeK xs)) = _
   rw [hr]
   rfl
  ·
   have hr : codeK xs = 0 := by rw [codeK, if_neg (by rw [hc0]; simp), if_neg (by rw [hc1]; simp)]
   refine awp_skip ?_
   refine awp_seq ?_
   refine r1 T0_ok hP hm hN ?_
   refine g1 ?_
   refine awp_ret ?_
   refine fin_mk [] rfl rfl ?_ trivial (by decide)
   show D.val (.int .i64 (codeK xs)) = _
   rw [hr]
   rfl

theorem call_dist {o : Oper} {cf : Operand} {args : Array Operand} {tys : Array TypeId} {ev : Operand → D} {hp : HP} {nx : Nat} {xs : List Bk} (h : xs.length ≤ 6) (ho : o.op = .call ⟨.value cf, args, tys⟩) (hcf : fnParts (ev cf) = some (.func 24, [], [])) (hargs : args.toList.map ev = [.val (.string (strOfNums (tx (ordN xs))))]) :
    OpRel Pr o ev hp nx { d := mpE2 xs, new := [], upd := [] } := by
  have e := OpRel.callF ok_I_distances (ordN xs) [] (by simp) (o := o) (hp := hp) (nx := nx) (d := .mp none (MapS Pr 9 3 (fM (endB (ordN xs).length (sortI (ordN xs))).2) 46656)) (K0 := []) ho hcf ⟨by rw [ordN_len]; exact h, by rw [ordN_len]; exact okN_ord h⟩ (by rw [List.nil_append, List.append_nil, hargs]; rfl) objsG_nil rfl rfl (fun o ho => by cases ho)
  rw [ordN_len] at e
  exact e

noncomputable abbrev s_I_LeastBlocks : Spec (List Bk) where
  args := fun xs => [.sl 8 (bks xs)]
  pre := fun xs => (∀ b ∈ xs, isBk b) ∧ xs.length ≤ 1048576
  res := fun xs => .tup [.val (.int .i64 (lbR xs).1), .val (.int .i64 (lbR xs).2)]

set_option maxRecDepth 20000 in
set_option maxHeartbeats 4000000 in
theorem ok_I_LeastBlocks : FnOk Pr 6 s_I_LeastBlocks := by
 refine fn_ok 1 0 T0_ok Go.Proofs.Tryz.func6 rfl (enters_of Go.Proofs.Tryz.func6 rfl rfl) (fun _ => rfl) (fun _ => rfl) (fun _ => rfl) ?_
 rintro xs ⟨hv, hl⟩ C hP hN hm hG
 change awp C _ _ ⟨[(0, .sl 8 (bks xs))], [], 0⟩
 refine awp_seq ?_
 refine r1 T0_ok hP hm hN ?_
 iterate 2 refine g1 ?_
 refine awp_seq ?_
 refine awp_seq ?_
 refine r1 T0_ok hP hm hN ?_
 refine g1 ?_
 refine gc1 ?_ (call1 ok_I_blockCode _ [] (hpre := by (try dsimp only); exact ⟨hv, hl⟩))
 refine g1 ?_
 refine awp_seq ?_
 refine r1 T0_ok hP hm hN ?_
 iterate 2 refine g1 ?_
 refine awp_cond rfl (fun hc0 => ?_) (fun hc0 => ?_)
 ·
  have hr : lbR xs = (0, codeK xs) := by rw [lbR, if_pos hc0]
  refine awp_seq ?_
  refine r1 T0_ok hP hm hN ?_
  iterate 3 refine g1 ?_
  refine awp_ret ?_
  refine fin_mk [] rfl rfl ?_ trivial (by decide)
  show D.tup [.val (.int .i64 (lbR xs).1), .val (.int .i64 (lbR xs).2)] = _
  rw [hr]
  rfl
 ·
  have hr : lbR xs = (((farX xs (ordN xs) : Nat) : Int), 0) := by rw [lbR, if_neg (by rw [hc0]; simp)]
  obtain ⟨h6, hk0⟩ := codeK_ok hc0
  have hol := ordN_len xs
  have hfar := fM_far h6 (List.Perm.refl (ordN xs))
  have hss : (strOfNums (tx (ordN xs))).size ≤ maxLen := by rw [strOfNums_size, tx_len, ordN_len]; simp only [maxLen]; omega
  refine awp_skip ?_
  refine awp_seq ?_
  refine r1 T0_ok hP hm hN ?_
  refine g1 ?_
  refine gc1 ?_ (call1 ok_I_ranks xs [] (hpre := by (try dsimp only); omega))
  refine g1 ?_
  refine awp_seq ?_
  refine r1 T0_ok hP hm hN ?_
  refine g1 ?_
  refine gc1 ?_ (call_dist h6 rfl rfl rfl)
  refine g1 ?_
  refine gc1 ?_ (oprel_lookup mpK mpT mpE mpZ rfl rfl rfl hss) (hst := by simp +decide (disch := omega) only [nrm, lk_nrm, dc_nrm, mk_nrm, mf_nrm, ti_nrm, ls_nrm, mp_nrm, nb_nrm, hset, pick_and, pick_or, ↓reduceIte, Nat.reduceAdd, hfar]; rfl)
  iterate 2 refine g1 ?_
  refine awp_ret ?_
  refine fin_mk [] rfl rfl ?_ trivial (by decide)
  show D.tup [.val (.int .i64 (lbR xs).1), .val (.int .i64 (lbR xs).2)] = _
  rw [hr]
  rfl
end Go.Proofs.YtpdkhlpmiblflaaGreat.Abs

