import Derived.Test.YtjkhgcmdcjdipaaD7
set_option linter.unusedVariables false
set_option linter.unusedSimpArgs false
namespace Go.Proofs.Ytjkhgcmdcjdipaa.Abs
open Go Go.RowKit
def keyB (b : Bk) : List Int := [b.cls, b.m0, b.m1, b.m2, b.vol]
theorem cmpU_key (a b : Bk) : cmpU a b = cmp3 (keyB a) (keyB b) := by
  have e1 : fldS 1 = 1 := by decide
  have e2 : fldS 2 = 2 := by decide
  have e3 : fldS 3 = 3 := by decide
  simp only [cmpU, usualO, cmpBy, e1, e2, e3, cmpF, keyB, marks]
  simp only [show ¬ ((1 : Int) < 0) by omega, show ¬ ((2 : Int) < 0) by omega, show ¬ ((3 : Int) < 0) by omega, if_false, beq_self_eq_true, if_true, show ((2 : Int) == 1) = false by decide, show ((3 : Int) == 1) = false by decide, show ((3 : Int) == 2) = false by decide, Bool.false_eq_true, cmp3]
  have h0 := cmpI_cases a.cls b.cls
  have h1 := cmpI_cases a.m0 b.m0
  have h2 := cmpI_cases a.m1 b.m1
  have h3 := cmpI_cases a.m2 b.m2
  have h4 := cmpI_cases a.vol b.vol
  rcases h0 with h0 | h0 | h0 <;> rcases h1 with h1 | h1 | h1 <;> rcases h2 with h2 | h2 | h2 <;> rcases h3 with h3 | h3 | h3 <;> rcases h4 with h4 | h4 | h4 <;> simp [h0, h1, h2, h3, h4]
theorem cmpI_le {a b c : Int} : (cmpI a b = -1 ↔ a < b) ∧ (cmpI a b = 0 ↔ a = b) ∧ (cmpI a b = 1 ↔ a > b) := by
  unfold cmpI
  refine ⟨?_, ?_, ?_⟩ <;> (repeat' split) <;> omega
theorem cmp3_anti : ∀ xs ys : List Int, xs.length = ys.length → cmp3 ys xs = -cmp3 xs ys
  | [], [], _ => rfl
  | x :: xs, y :: ys, h => by
    have ih := cmp3_anti xs ys (by simpa using h)
    unfold cmp3
    rcases Int.lt_trichotomy x y with h1 | h1 | h1
    · simp [cmpI, h1, show ¬ y < x by omega]
    · subst h1; simp [cmpI, ih]
    · simp [cmpI, h1, show ¬ x < y by omega]
  | [], _ :: _, h => by simp at h
  | _ :: _, [], h => by simp at h
theorem cmp3_trans : ∀ xs ys zs : List Int, xs.length = ys.length → ys.length = zs.length → cmp3 xs ys ≤ 0 → cmp3 ys zs ≤ 0 → cmp3 xs zs ≤ 0
  | [], [], [], _, _, _, _ => by decide
  | x :: xs, y :: ys, z :: zs, h1, h2, h3, h4 => by
    have ih := cmp3_trans xs ys zs (by simpa using h1) (by simpa using h2)
    unfold cmp3 at h3 h4 ⊢
    unfold cmpI at h3 h4 ⊢
    rcases Int.lt_trichotomy x y with a | a | a <;> rcases Int.lt_trichotomy y z with b | b | b
    · simp [show x < z by omega]
    · subst b; simp [a]
    · simp [b, show ¬ y < z by omega] at h4
    · subst a; simp [b]
    · subst a; subst b; simp at h3 h4 ⊢; exact ih h3 h4
    · simp [b, show ¬ y < z by omega] at h4
    all_goals simp [a, show ¬ x < y by omega] at h3
  | [], [], _ :: _, _, h, _, _ => by simp at h
  | [], _ :: _, _, h, _, _, _ => by simp at h
  | _ :: _, [], _, h, _, _, _ => by simp at h
  | _ :: _, _ :: _, [], _, h, _, _ => by simp at h
theorem cmpU_anti (a b : Bk) : cmpU b a = -cmpU a b := by rw [cmpU_key, cmpU_key]; exact cmp3_anti _ _ rfl
theorem cmpU_trans {a b c : Bk} (h1 : cmpU a b ≤ 0) (h2 : cmpU b c ≤ 0) : cmpU a c ≤ 0 := by
  rw [cmpU_key] at *
  exact cmp3_trans (keyB a) (keyB b) (keyB c) rfl rfl h1 h2

theorem valid60' {xs : List Bk} (h : (!validBs xs) = false) : xs.length ≤ 60 := by
  simp only [Bool.not_eq_false', validBs, Bool.and_eq_true, decide_eq_true_eq] at h
  omega
noncomputable def codeK (xs : List Bk) : Int := if (!validBs xs) = true then 1 else if decide ((xs.length : Int) > 6) = true then 3 else 0
theorem codeK_b (xs : List Bk) : codeK xs = 1 ∨ codeK xs = 3 ∨ codeK xs = 0 := by
  unfold codeK
  split
  · exact .inl rfl
  · split
    · exact .inr (.inl rfl)
    · exact .inr (.inr rfl)
theorem codeK_ok {xs : List Bk} (h : (codeK xs != 0) = false) : xs.length ≤ 6 ∧ codeK xs = 0 := by
  have h0 : codeK xs = 0 := by simpa using h
  refine ⟨?_, h0⟩
  unfold codeK at h0
  split at h0
  · cases h0
  · split at h0
    · cases h0
    · rename_i h2; simp at h2; omega
theorem rankN_lt {xs : List Bk} {b : Bk} (hb : b ∈ xs) : rankN xs b < xs.length := by
  unfold rankN cntB
  rw [List.take_length]
  refine List.length_filter_lt_length_iff_exists.2 ⟨b, hb, ?_⟩
  have : cmpU b b = 0 := by have := cmpU_anti b b; omega
  simp [this]
theorem ordN_len (xs : List Bk) : (ordN xs).length = xs.length := by simp [ordN]
theorem okN_ord {xs : List Bk} (h : xs.length ≤ 6) : okN xs.length (ordN xs) := ⟨ordN_len xs, fun r hr => by
  obtain ⟨b, hb, rfl⟩ := List.mem_map.1 hr
  have := rankN_lt hb
  omega⟩
/-- How far the ranks are from the first arrangement. -/
theorem farX_ex (xs : List Bk) (x : Nd) : ∃ n, n = dpt (endB xs.length (sortI (ordN xs))) x := ⟨_, rfl⟩
noncomputable def farX (xs : List Bk) (x : Nd) : Nat := (farX_ex xs x).choose
theorem farX_def (xs : List Bk) (x : Nd) : farX xs x = dpt (endB xs.length (sortI (ordN xs))) x := (farX_ex xs x).choose_spec
noncomputable def lbR (xs : List Bk) : Int × Int := if (codeK xs != 0) = true then (0, codeK xs) else (((farX xs (ordN xs) : Nat) : Int), 0)
theorem fM_far {xs : List Bk} (h : xs.length ≤ 6) {x : Nd} (hx : x.Perm (ordN xs)) : (fM (endB xs.length (sortI (ordN xs))).2 (strOfNums (tx x))).getD 0 = ((farX xs x : Nat) : Int) := by
  have h0 := okN_sort (okN_ord h)
  have hp : x.Perm (sortI (ordN xs)) := hx.trans (sortI_perm _).symm
  rw [fM_at (okN_perm h0 hp), end_some h h0 hp, farX_def]; rfl
abbrev mpE2 (xs : List Bk) : D := .mp none (MapS Pr 9 3 (fM (endB xs.length (sortI (ordN xs))).2) 46656)

noncomputable abbrev s_I_blockCode : Spec (List Bk) where
  args := fun xs => [.sl 8 (bks xs)]
  pre := fun xs => (∀ b ∈ xs, isBk b) ∧ xs.length ≤ 1048576
  res := fun xs => .val (.int .i64 (codeK xs))

set_option maxRecDepth 20000 in
set_option maxHeartbeats 1000000 in
theorem ok_I_blockCode : FnOk Pr 21 s_I_blockCode := by
 refine fn_ok 1 0 T0_ok Go.Proofs.Try.func21 rfl (enters_of Go.Proofs.Try.func21 rfl rfl) (fun _ => rfl) (fun _ => rfl) (fun _ => rfl) ?_
 rintro xs ⟨hv, hl⟩ C hP hN hm hG
 change awp C _ _ ⟨[(0, .sl 8 (bks xs))], [], 0⟩
 refine awp_seq ?_
 refine r1 T0_ok hP hm hN ?_
 refine g1 ?_
 refine awp_seq ?_
 refine awp_block ?_
 refine awp_seq ?_
 refine r1 T0_ok hP hm hN ?_
 refine g1 ?_
 refine gc1 ?_ (call1 ok_I_ValidBooks _ [] (hpre := by (try dsimp only); omega))
 iterate 2 refine g1 ?_
 refine awp_cond rfl (fun hc0 => ?_) (fun hc0 => ?_)
 ·
  have hr : codeK xs = 1 := by rw [codeK, if_pos hc0]
  refine awp_seq ?_
  refine r1 T0_ok hP hm hN ?_
  refine g1 ?_
  refine awp_ret ?_
  refine fin_mk [] rfl rfl ?_ trivial (by decide)
  show D.val (.int .i64 (codeK xs)) = _
  rw [hr]
  rfl
 ·
  refine awp_seq ?_
  refine r1 T0_ok hP hm hN ?_
  iterate 4 refine g1 ?_
  refine awp_cond rfl (fun hc1 => ?_) (fun hc1 => ?_)
  ·
   have hr : codeK xs = 3 := by rw [codeK, if_neg (by rw [hc0]; simp), if_pos hc1]
   refine awp_seq ?_
   refine r1 T0_ok hP hm hN ?_
   refine g1 ?_
   refine awp_ret ?_
   refine fin_mk [] rfl rfl ?_ trivial (by decide)
   show D.val (.int .i64 (codeK xs)) = _
   rw [hr]
   rfl
  ·
   have hr : codeK xs = 0 := by rw [codeK, if_neg (by rw [hc0]; simp), if_neg (by rw [hc1]; simp)]
   refine awp_skip ?_
   refine awp_seq ?_
   refine r1 T0_ok hP hm hN ?_
   refine g1 ?_
   refine awp_ret ?_
   refine fin_mk [] rfl rfl ?_ trivial (by decide)
   show D.val (.int .i64 (codeK xs)) = _
   rw [hr]
   rfl

theorem call_dist {o : Oper} {cf : Operand} {args : Array Operand} {tys : Array TypeId} {ev : Operand → D} {hp : HP} {nx : Nat} {xs : List Bk} (h : xs.length ≤ 6) (ho : o.op = .call ⟨.value cf, args, tys⟩) (hcf : fnParts (ev cf) = some (.func 23, [], [])) (hargs : args.toList.map ev = [.val (.string (strOfNums (tx (ordN xs))))]) :
    OpRel Pr o ev hp nx { d := mpE2 xs, new := [], upd := [] } := by
  have e := OpRel.callF ok_I_distances (ordN xs) [] (by simp) (o := o) (hp := hp) (nx := nx) (d := .mp none (MapS Pr 9 3 (fM (endB (ordN xs).length (sortI (ordN xs))).2) 46656)) (K0 := []) ho hcf ⟨by rw [ordN_len]; exact h, by rw [ordN_len]; exact okN_ord h⟩ (by rw [List.nil_append, List.append_nil, hargs]; rfl) objsG_nil rfl rfl (fun o ho => by cases ho)
  rw [ordN_len] at e
  exact e

noncomputable abbrev s_I_LeastBlocks : Spec (List Bk) where
  args := fun xs => [.sl 8 (bks xs)]
  pre := fun xs => (∀ b ∈ xs, isBk b) ∧ xs.length ≤ 1048576
  res := fun xs => .tup [.val (.int .i64 (lbR xs).1), .val (.int .i64 (lbR xs).2)]

set_option maxRecDepth 20000 in
set_option maxHeartbeats 4000000 in
theorem ok_I_LeastBlocks : FnOk Pr 8 s_I_LeastBlocks := by
 refine fn_ok 1 0 T0_ok Go.Proofs.Try.func8 rfl (enters_of Go.Proofs.Try.func8 rfl rfl) (fun _ => rfl) (fun _ => rfl) (fun _ => rfl) ?_
 rintro xs ⟨hv, hl⟩ C hP hN hm hG
 change awp C _ _ ⟨[(0, .sl 8 (bks xs))], [], 0⟩
 refine awp_seq ?_
 refine r1 T0_ok hP hm hN ?_
 iterate 2 refine g1 ?_
 refine awp_seq ?_
 refine awp_seq ?_
 refine r1 T0_ok hP hm hN ?_
 refine g1 ?_
 refine gc1 ?_ (call1 ok_I_blockCode _ [] (hpre := by (try dsimp only); exact ⟨hv, hl⟩))
 refine g1 ?_
 refine awp_seq ?_
 refine r1 T0_ok hP hm hN ?_
 iterate 2 refine g1 ?_
 refine awp_cond rfl (fun hc0 => ?_) (fun hc0 => ?_)
 ·
  have hr : lbR xs = (0, codeK xs) := by rw [lbR, if_pos hc0]
  refine awp_seq ?_
  refine r1 T0_ok hP hm hN ?_
  iterate 3 refine g1 ?_
  refine awp_ret ?_
  refine fin_mk [] rfl rfl ?_ trivial (by decide)
  show D.tup [.val (.int .i64 (lbR xs).1), .val (.int .i64 (lbR xs).2)] = _
  rw [hr]
  rfl
 ·
  have hr : lbR xs = (((farX xs (ordN xs) : Nat) : Int), 0) := by rw [lbR, if_neg (by rw [hc0]; simp)]
  obtain ⟨h6, hk0⟩ := codeK_ok hc0
  have hol := ordN_len xs
  have hfar := fM_far h6 (List.Perm.refl (ordN xs))
  have hss : (strOfNums (tx (ordN xs))).size ≤ maxLen := by rw [strOfNums_size, tx_len, ordN_len]; simp only [maxLen]; omega
  refine awp_skip ?_
  refine awp_seq ?_
  refine r1 T0_ok hP hm hN ?_
  refine g1 ?_
  refine gc1 ?_ (call1 ok_I_ranks xs [] (hpre := by (try dsimp only); omega))
  refine g1 ?_
  refine awp_seq ?_
  refine r1 T0_ok hP hm hN ?_
  refine g1 ?_
  refine gc1 ?_ (call_dist h6 rfl rfl rfl)
  refine g1 ?_
  refine gc1 ?_ (oprel_lookup mpK mpT mpE mpZ rfl rfl rfl hss) (hst := by simp +decide (disch := omega) only [nrm, lk_nrm, dc_nrm, mk_nrm, mf_nrm, ti_nrm, ls_nrm, mp_nrm, nb_nrm, hset, pick_and, pick_or, ↓reduceIte, Nat.reduceAdd, hfar]; rfl)
  iterate 2 refine g1 ?_
  refine awp_ret ?_
  refine fin_mk [] rfl rfl ?_ trivial (by decide)
  show D.tup [.val (.int .i64 (lbR xs).1), .val (.int .i64 (lbR xs).2)] = _
  rw [hr]
  rfl
end Go.Proofs.Ytjkhgcmdcjdipaa.Abs
