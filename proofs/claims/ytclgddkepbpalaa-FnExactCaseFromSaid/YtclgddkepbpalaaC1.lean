import Derived.Test.YtclgddkepbpalaaW5
set_option linter.unusedVariables false
set_option linter.unusedSimpArgs false
namespace Go.Proofs.Ytclgddkepbpalaa.Abs
open Go Go.RowKit
abbrev i16s (xs : List Int) : List (List D) := ints .i16 xs
abbrev Cs := Int × Int × List Int
abbrev caseD (x : Cs) : D := .agg [.val (.int .i16 x.1), .val (.int .i32 x.2.1), .sl 1 (i16s x.2.2)]
theorem i16s_set (xs : List Int) (i : Nat) (v : Int) : (i16s xs).set i [.val (.int .i16 v)] = i16s (xs.set i v) := by simp
theorem i16s_app (xs : List Int) (v : Int) : i16s (xs ++ [v]) = i16s xs ++ [[.val (.int .i16 v)]] := by simp
theorem inI_b {n a b : Int} (h : inI n a b = true) : a ≤ n ∧ n ≤ b := inI_iff.1 h

/-- What marking makes of an element. -/
def mk_i16 (k : Int) : Int := (IntKind.i16.wrap (k))
def mkd_i16 (n : Nat) (k : Int) : List Int := (List.range n).map fun (j : Nat) => mk_i16 (k + 1 * (j : Int))
def mix_i16 (xs : List Int) (k : Int) (i : Nat) : List Int := mkd_i16 i k ++ xs.drop i
theorem mkd_i16_len (n : Nat) (k : Int) : (mkd_i16 n k).length = n := by simp [mkd_i16]
theorem mkd_i16_get {n : Nat} {k : Int} {j : Nat} (h : j < n) : (mkd_i16 n k).getD j 0 = mk_i16 (k + 1 * (j : Int)) := by simp [mkd_i16, List.getD, h]
theorem mix_i16_zero (xs : List Int) (k : Int) : mix_i16 xs k 0 = xs := by simp [mix_i16, mkd_i16]
theorem mix_i16_all (xs : List Int) (k : Int) : mix_i16 xs k xs.length = mkd_i16 xs.length k := by simp [mix_i16]
theorem mix_i16_len (xs : List Int) (k : Int) {i : Nat} (h : i ≤ xs.length) : (mix_i16 xs k i).length = xs.length := by simp [mix_i16, mkd_i16]; omega
theorem mix_i16_set (xs : List Int) (k : Int) {i : Nat} (h : i < xs.length) : (mix_i16 xs k i).set i (mk_i16 (k + 1 * (i : Int))) = mix_i16 xs k (i + 1) := by
  have e : mkd_i16 (i + 1) k = mkd_i16 i k ++ [mk_i16 (k + 1 * (i : Int))] := by simp [mkd_i16, List.range_succ]
  unfold mix_i16
  rw [e, List.set_append_right _ _ (by simp [mkd_i16]), mkd_i16_len, Nat.sub_self, List.drop_eq_getElem_cons h, List.set_cons_zero, List.append_assoc]
  rfl
/-- What the check of marks says. -/
noncomputable def heldR_i16 (xs : List Int) (k : Int) : Int := if ask (xs = mkd_i16 xs.length k) then k + 1 * xs.length else -1
theorem heldR_i16_no {xs : List Int} {k : Int} {i : Nat} (hi : i < xs.length) (h : xs.getD i 0 ≠ mk_i16 (k + 1 * (i : Int))) : heldR_i16 xs k = -1 := by
  unfold heldR_i16
  rw [ask_false (fun e => h (by rw [e, mkd_i16_get hi]))]
  rfl
theorem heldR_i16_yes {xs : List Int} {k : Int} (h : ∀ i, i < xs.length → xs.getD i 0 = mk_i16 (k + 1 * (i : Int))) : heldR_i16 xs k = k + 1 * xs.length := by
  unfold heldR_i16
  rw [ask_true (list_ext' (d := 0) (mkd_i16_len _ _).symm (fun j hj => by rw [h j hj, mkd_i16_get hj]))]
  rfl
theorem heldR_i16_mkd (n : Nat) (k : Int) : heldR_i16 (mkd_i16 n k) k = k + 1 * n := by
  rw [heldR_i16_yes (fun i hi => by rw [mkd_i16_len] at hi; exact mkd_i16_get hi), mkd_i16_len]

noncomputable abbrev s_L_eqInt16S : Spec (List Int × List Int) where
  args := fun x => [.sl 1 (i16s x.1), .sl 1 (i16s x.2)]
  pre := fun x => x.1.length ≤ 9223372036854775807 ∧ x.2.length ≤ 9223372036854775807
  res := fun x => .val (.bool (ask (x.1 = x.2)))

set_option maxRecDepth 20000 in
set_option maxHeartbeats 1000000 in
theorem ok_L_eqInt16S : FnOk Pr 42 s_L_eqInt16S := by
  refine fn_ok 2 0 T0_ok Go.Proofs.Try.func42 rfl (enters_of Go.Proofs.Try.func42 rfl rfl) (fun _ => rfl) (fun _ => rfl) (fun _ => rfl) ?_
  rintro ⟨xs, ys⟩ ⟨hp, hp2⟩ C hP hN hm hG
  change awp C _ _ ⟨[(0, .sl 1 (i16s xs)), (1, .sl 1 (i16s ys))], [], 0⟩
  simp only at hp hp2
  refine awp_seq ?_
  refine r1 T0_ok hP hm hN ?_
  refine g1 ?_
  refine awp_seq ?_
  refine awp_seq ?_
  refine r1 T0_ok hP hm hN ?_
  refine g1 ?_
  refine g1 ?_
  refine g1 ?_
  refine g1 ?_
  refine g1 ?_
  refine awp_cond rfl (fun hc0 => ?_) (fun hc0 => ?_)
  · skip
    refine awp_seq ?_
    refine r1 T0_ok hP hm hN ?_
    refine g1 ?_
    refine awp_ret ?_
    refine fin_mk [] rfl rfl ?_ trivial (by decide)
    show D.val (.bool (ask (xs = ys))) = D.val (.bool false)
    rw [ask_false (fun h => by subst h; simp at hc0)]
  · skip
    have hl : xs.length = ys.length := by simp at hc0; omega
    refine awp_skip ?_
    refine awp_seq ?_
    refine awp_seq ?_
    refine r1 T0_ok hP hm hN ?_
    refine g1 ?_
    refine awp_block ?_
    refine awp_loop (fun n st => ∃ i : Nat, i ≤ xs.length ∧ (∀ j, j < i → xs.getD j 0 = ys.getD j 0) ∧ n = xs.length - i ∧ st = ⟨[(5, .val (.int .i64 ((i : Nat) : Int))), (0, .sl 1 (i16s xs)), (1, .sl 1 (i16s ys))], [], 0⟩) (xs.length) ⟨_, weak_sl (sub_cons rfl (sub_cons rfl (sub_cons rfl (sub_nil)))), 0, by omega, fun j h => by omega, rfl, rfl⟩ ?_
    rintro n st ⟨i, hii, hall, hni, rfl⟩
    refine awp_seq ?_
    refine awp_seq ?_
    refine r1 T0_ok hP hm hN ?_
    refine g1 ?_
    refine g1 ?_
    refine g1 ?_
    refine g1 ?_
    refine awp_cond rfl (fun hc1 => ?_) (fun hc1 => ?_)
    · skip
      have hlti : i < xs.length := by simpa using hc1
      have hgx := ints_get .i16 xs i hlti
      have hgy := ints_get .i16 ys i (by omega)
      refine awp_skip ?_
      refine awp_seq ?_
      refine awp_block ?_
      refine awp_seq ?_
      refine awp_draw T0_ok hP hm hN Pr_mix [0, 1, 2, 3, 4, 5, 6, 7, 8, 9, 10, 11] [] _ rfl (by rfl) ?_
      refine d1 T0_ok ?_
      refine d1 T0_ok ?_
      refine d1 T0_ok ?_
      refine d1 T0_ok ?_
      refine d1 T0_ok ?_
      refine d1 T0_ok ?_
      refine d1 T0_ok ?_
      refine d1 T0_ok ?_
      refine d1 T0_ok ?_
      refine dreg_nil ?_
      refine awp_cond rfl (fun hc2 => ?_) (fun hc2 => ?_)
      · skip
        refine awp_seq ?_
        refine r1 T0_ok hP hm hN ?_
        refine g1 ?_
        refine awp_ret ?_
        refine fin_mk [] rfl rfl ?_ trivial (by decide)
        show D.val (.bool (ask (xs = ys))) = D.val (.bool false)
        rw [ask_false (fun h => by subst h; simp at hc2)]
      · skip
        refine awp_skip ?_
        refine r1 T0_ok hP hm hN ?_
        refine g1 ?_
        refine g1 ?_
        refine g1 ?_
        refine ⟨xs.length - (i + 1), _, by omega, weak_sl (sub_cons rfl (sub_cons rfl (sub_cons rfl (sub_nil)))), i + 1, by omega, upto_step hall (by have h := hc2; simp only [bne_eq_false_iff_eq] at h; exact h), rfl, rfl⟩
    · skip
      have hgei : ¬ i < xs.length := by simpa using hc1
      have heqi : i = xs.length := by omega
      refine awp_exit ?_
      repeat refine thenA_exit ?_
      refine blockA_hit ?_
      refine awp_seq ?_
      refine r1 T0_ok hP hm hN ?_
      refine g1 ?_
      refine awp_ret ?_
      refine fin_mk [] rfl rfl ?_ trivial (by decide)
      show D.val (.bool (ask (xs = ys))) = D.val (.bool true)
      rw [ask_true (list_ext' (d := 0) hl (fun j hj => hall j (by omega)))]

noncomputable abbrev s_L_markInt16S : Spec (List Int × Int) where
  args := fun x => [.own 0, .val (.int .i64 x.2)]
  pre := fun x => x.1.length ≤ 4611686018427387904 ∧ 0 ≤ x.2 ∧ x.2 + x.1.length ≤ 4611686018427387904
  obs := fun x => [⟨22, 1, false, i16s x.1⟩]
  out := fun x => [⟨22, 1, false, i16s (mkd_i16 x.1.length x.2)⟩]
  res := fun x => .val (.int .i64 (x.2 + 1 * x.1.length))

set_option maxRecDepth 20000 in
set_option maxHeartbeats 4000000 in
theorem ok_L_markInt16S : FnOk Pr 43 s_L_markInt16S := by
  refine fn_ok 2 1 T0_ok Go.Proofs.Try.func43 rfl (enters_of Go.Proofs.Try.func43 rfl rfl) (fun _ => rfl) (fun _ => rfl) (fun _ => rfl) ?_
  rintro ⟨xs, k⟩ ⟨hl, hk0, hk⟩ C hP hN hm hG
  change awp C _ _ ⟨[(0, .own 0), (1, .val (.int .i64 k))], [(0, ⟨22, 1, false, i16s xs⟩)], 1⟩
  simp only at hl hk0 hk
  refine awp_seq ?_
  refine r1 T0_ok hP hm hN ?_
  refine g1 ?_
  refine awp_seq ?_
  refine awp_seq ?_
  refine r1 T0_ok hP hm hN ?_
  refine g1 ?_
  refine awp_block ?_
  refine awp_loop (fun n st => ∃ i : Nat, i ≤ xs.length ∧ n = xs.length - i ∧ st = ⟨[(5, .val (.int .i64 ((i : Nat) : Int))), (1, .val (.int .i64 (k + 1 * ((i : Nat) : Int)))), (0, .own 0)], [(0, ⟨22, 1, false, i16s (mix_i16 xs k i)⟩)], 1⟩) (xs.length) ⟨_, (by rw [mix_i16_zero, show k + 1 * ((0 : Nat) : Int) = k by omega]; exact weak_sl (sub_cons rfl (sub_cons rfl (sub_cons rfl (sub_nil))))), 0, by omega, rfl, rfl⟩ ?_
  rintro n st ⟨i, hii, hni, rfl⟩
  have hml := mix_i16_len xs k hii
  refine awp_seq ?_
  refine awp_seq ?_
  refine r1 T0_ok hP hm hN ?_
  refine g1 ?_
  refine g1 ?_
  refine g1 ?_
  refine g1 ?_
  refine awp_cond rfl (fun hc0 => ?_) (fun hc0 => ?_)
  · skip
    have hlti : i < xs.length := by simp [hml] at hc0; exact hc0
    have hgm := ints_get .i16 (mix_i16 xs k i) i (by omega)
    refine awp_skip ?_
    refine awp_seq ?_
    refine awp_block ?_
    refine awp_seq ?_
    refine r1 T0_ok hP hm hN ?_
    refine g1 ?_
    refine g1 ?_
    refine g1 ?_
    refine g1 ?_
    refine g1 ?_
    refine g1 ?_
    refine r1 T0_ok hP hm hN ?_
    refine g1 ?_
    refine g1 ?_
    refine g1 ?_
    refine r1 T0_ok hP hm hN ?_
    refine g1 ?_
    refine g1 ?_
    refine g1 ?_
    refine ⟨xs.length - (i + 1), _, by omega, (by rw [← mix_i16_set xs k hlti, i16s_set, show k + 1 * ((i + 1 : Nat) : Int) = k + 1 * (i : Int) + 1 by omega]; exact weak_sl (sub_cons rfl (sub_cons rfl (sub_cons rfl (sub_nil))))), i + 1, by omega, rfl, rfl⟩
  · skip
    have hgei : ¬ i < xs.length := by simp [hml] at hc0; omega
    have heqi : i = xs.length := by omega
    rw [heqi, mix_i16_all]
    refine awp_exit ?_
    repeat refine thenA_exit ?_
    refine blockA_hit ?_
    refine awp_seq ?_
    refine r1 T0_ok hP hm hN ?_
    refine g1 ?_
    refine g1 ?_
    refine awp_ret ?_
    refine fin_mk [] rfl rfl ?_ (objs_cons rfl rfl rfl rfl rfl (.inl rfl) objs_nil) (by decide)
    rfl

noncomputable abbrev s_L_heldInt16S : Spec (List Int × Int) where
  args := fun x => [.sl 1 (i16s x.1), .val (.int .i64 x.2)]
  pre := fun x => x.1.length ≤ 4611686018427387904 ∧ 0 ≤ x.2 ∧ x.2 + x.1.length ≤ 4611686018427387904
  res := fun x => .val (.int .i64 (heldR_i16 x.1 x.2))

set_option maxRecDepth 20000 in
set_option maxHeartbeats 1000000 in
theorem ok_L_heldInt16S : FnOk Pr 44 s_L_heldInt16S := by
  refine fn_ok 2 0 T0_ok Go.Proofs.Try.func44 rfl (enters_of Go.Proofs.Try.func44 rfl rfl) (fun _ => rfl) (fun _ => rfl) (fun _ => rfl) ?_
  rintro ⟨xs, k⟩ ⟨hl, hk0, hk⟩ C hP hN hm hG
  change awp C _ _ ⟨[(0, .sl 1 (i16s xs)), (1, .val (.int .i64 k))], [], 0⟩
  simp only at hl hk0 hk
  refine awp_seq ?_
  refine r1 T0_ok hP hm hN ?_
  refine g1 ?_
  refine awp_seq ?_
  refine awp_seq ?_
  refine r1 T0_ok hP hm hN ?_
  refine g1 ?_
  refine awp_block ?_
  refine awp_loop (fun n st => ∃ i : Nat, i ≤ xs.length ∧ (∀ j, j < i → xs.getD j 0 = mk_i16 (k + 1 * (j : Int))) ∧ n = xs.length - i ∧ st = ⟨[(5, .val (.int .i64 ((i : Nat) : Int))), (1, .val (.int .i64 (k + 1 * ((i : Nat) : Int)))), (0, .sl 1 (i16s xs))], [], 0⟩) (xs.length) ⟨_, (by rw [show k + 1 * ((0 : Nat) : Int) = k by omega]; exact weak_sl (sub_cons rfl (sub_cons rfl (sub_cons rfl (sub_nil))))), 0, by omega, fun j h => by omega, rfl, rfl⟩ ?_
  rintro n st ⟨i, hii, hall, hni, rfl⟩
  refine awp_seq ?_
  refine awp_seq ?_
  refine r1 T0_ok hP hm hN ?_
  refine g1 ?_
  refine g1 ?_
  refine g1 ?_
  refine g1 ?_
  refine awp_cond rfl (fun hc0 => ?_) (fun hc0 => ?_)
  · skip
    have hlti : i < xs.length := by simpa using hc0
    have hgx := ints_get .i16 xs i hlti
    refine awp_skip ?_
    refine awp_seq ?_
    refine awp_block ?_
    refine awp_seq ?_
    refine awp_seq ?_
    refine r1 T0_ok hP hm hN ?_
    refine g1 ?_
    refine g1 ?_
    refine g1 ?_
    refine g1 ?_
    refine g1 ?_
    refine g1 ?_
    refine g1 ?_
    refine awp_cond rfl (fun hc1 => ?_) (fun hc1 => ?_)
    · skip
      refine awp_seq ?_
      refine r1 T0_ok hP hm hN ?_
      refine g1 ?_
      refine awp_ret ?_
      refine fin_mk [] rfl rfl ?_ trivial (by decide)
      show D.val (.int .i64 (heldR_i16 xs k)) = D.val (.int .i64 (-1))
      rw [heldR_i16_no hlti (fun e => by rw [e] at hc1; simp [mk_i16] at hc1)]
    · skip
      refine awp_skip ?_
      refine r1 T0_ok hP hm hN ?_
      refine g1 ?_
      refine g1 ?_
      refine g1 ?_
      refine r1 T0_ok hP hm hN ?_
      refine g1 ?_
      refine g1 ?_
      refine g1 ?_
      refine ⟨xs.length - (i + 1), _, by omega, (by rw [show k + 1 * ((i + 1 : Nat) : Int) = k + 1 * (i : Int) + 1 by omega]; exact weak_sl (sub_cons rfl (sub_cons rfl (sub_cons rfl (sub_nil))))), i + 1, by omega, upto_step hall (by have h1 := hc1; simp only [bne_eq_false_iff_eq] at h1; exact h1), rfl, rfl⟩
  · skip
    have hgei : ¬ i < xs.length := by simpa using hc0
    have heqi : i = xs.length := by omega
    refine awp_exit ?_
    repeat refine thenA_exit ?_
    refine blockA_hit ?_
    refine awp_seq ?_
    refine r1 T0_ok hP hm hN ?_
    refine g1 ?_
    refine g1 ?_
    refine awp_ret ?_
    refine fin_mk [] rfl rfl ?_ trivial (by decide)
    show D.val (.int .i64 (heldR_i16 xs k)) = _
    rw [heldR_i16_yes (fun j hj => hall j (by omega)), ← heqi]
    rfl

noncomputable abbrev s_L_eqCase : Spec (Cs × Cs) where
  args := fun x => [caseD x.1, caseD x.2]
  pre := fun x => x.1.2.2.length ≤ 9223372036854775807 ∧ x.2.2.2.length ≤ 9223372036854775807
  res := fun x => .val (.bool (ask (x.1 = x.2)))

set_option maxRecDepth 20000 in
set_option maxHeartbeats 1000000 in
theorem ok_L_eqCase : FnOk Pr 12 s_L_eqCase := by
  refine fn_ok 2 0 T0_ok Go.Proofs.Try.func12 rfl (enters_of Go.Proofs.Try.func12 rfl rfl) (fun _ => rfl) (fun _ => rfl) (fun _ => rfl) ?_
  rintro ⟨⟨p, q, xs⟩, r, s, ys⟩ ⟨h1, h2⟩ C hP hN hm hG
  change awp C _ _ ⟨[(0, .agg [.val (.int .i16 p), .val (.int .i32 q), .sl 1 (i16s xs)]), (1, .agg [.val (.int .i16 r), .val (.int .i32 s), .sl 1 (i16s ys)])], [], 0⟩
  simp only at h1 h2
  refine awp_seq ?_
  refine r1 T0_ok hP hm hN ?_
  refine g1 ?_
  refine g1 ?_
  refine g1 ?_
  refine awp_seq ?_
  refine awp_seq ?_
  refine r1 T0_ok hP hm hN ?_
  refine g1 ?_
  refine g1 ?_
  refine g1 ?_
  refine g1 ?_
  refine g1 ?_
  refine awp_cond rfl (fun hc0 => ?_) (fun hc0 => ?_)
  · skip
    refine awp_seq ?_
    refine r1 T0_ok hP hm hN ?_
    refine g1 ?_
    refine awp_ret ?_
    refine fin_mk [] rfl rfl ?_ trivial (by decide)
    show D.val (.bool (ask ((p, q, xs) = (r, s, ys)))) = D.val (.bool false)
    rw [ask_false (fun h => by simp only [Prod.mk.injEq] at h; rw [h.1] at hc0; simp at hc0)]
  · skip
    refine awp_skip ?_
    refine awp_seq ?_
    refine awp_seq ?_
    refine r1 T0_ok hP hm hN ?_
    refine g1 ?_
    refine g1 ?_
    refine g1 ?_
    refine g1 ?_
    refine g1 ?_
    refine awp_cond rfl (fun hc1 => ?_) (fun hc1 => ?_)
    · skip
      refine awp_seq ?_
      refine r1 T0_ok hP hm hN ?_
      refine g1 ?_
      refine awp_ret ?_
      refine fin_mk [] rfl rfl ?_ trivial (by decide)
      show D.val (.bool (ask ((p, q, xs) = (r, s, ys)))) = D.val (.bool false)
      rw [ask_false (fun h => by simp only [Prod.mk.injEq] at h; rw [h.2.1] at hc1; simp at hc1)]
    · skip
      refine awp_skip ?_
      refine awp_seq ?_
      refine awp_seq ?_
      refine r1 T0_ok hP hm hN ?_
      refine g1 ?_
      refine g1 ?_
      refine g1 ?_
      refine g1 ?_
      refine gc1 ?_ (call1 ok_L_eqInt16S (_, _) [] (hpre := by (try dsimp only); exact ⟨h1, h2⟩))
      refine g1 ?_
      refine awp_cond rfl (fun hc2 => ?_) (fun hc2 => ?_)
      · skip
        refine awp_seq ?_
        refine r1 T0_ok hP hm hN ?_
        refine g1 ?_
        refine awp_ret ?_
        refine fin_mk [] rfl rfl ?_ trivial (by decide)
        show D.val (.bool (ask ((p, q, xs) = (r, s, ys)))) = D.val (.bool false)
        rw [ask_false (fun h => by simp only [Prod.mk.injEq] at h; rw [h.2.2] at hc2; simp [ask] at hc2)]
      · skip
        refine awp_skip ?_
        refine awp_seq ?_
        refine r1 T0_ok hP hm hN ?_
        refine g1 ?_
        refine awp_ret ?_
        refine fin_mk [] rfl rfl ?_ trivial (by decide)
        show D.val (.bool (ask ((p, q, xs) = (r, s, ys)))) = D.val (.bool true)
        simp only [Bool.not_eq_false', ask_iff, bne_eq_false_iff_eq] at hc0 hc1 hc2
        rw [ask_true (by rw [hc0, hc1, hc2])]

noncomputable abbrev s_L_markCase : Spec (Cs × Int) where
  args := fun x => [.agg [.val (.int .i16 x.1.1), .val (.int .i32 x.1.2.1), .own 0], .val (.int .i64 x.2)]
  pre := fun x => x.1.2.2.length ≤ 4611686018427387904 ∧ 0 ≤ x.2 ∧ x.2 + x.1.2.2.length ≤ 4611686018427387904
  obs := fun x => [⟨22, 1, false, i16s x.1.2.2⟩]
  out := fun x => [⟨22, 1, false, i16s (mkd_i16 x.1.2.2.length x.2)⟩]
  res := fun x => .val (.int .i64 (x.2 + 1 * x.1.2.2.length))

set_option maxRecDepth 20000 in
set_option maxHeartbeats 1000000 in
theorem ok_L_markCase : FnOk Pr 15 s_L_markCase := by
  refine fn_ok 2 1 T0_ok Go.Proofs.Try.func15 rfl (enters_of Go.Proofs.Try.func15 rfl rfl) (fun _ => rfl) (fun _ => rfl) (fun _ => rfl) ?_
  rintro ⟨⟨p, q, xs⟩, k⟩ ⟨hl, hk0, hk⟩ C hP hN hm hG
  change awp C _ _ ⟨[(0, .agg [.val (.int .i16 p), .val (.int .i32 q), .own 0]), (1, .val (.int .i64 k))], [(0, ⟨22, 1, false, i16s xs⟩)], 1⟩
  simp only at hl hk0 hk
  refine awp_seq ?_
  refine r1 T0_ok hP hm hN ?_
  refine g1 ?_
  refine g1 ?_
  refine awp_seq ?_
  refine r1 T0_ok hP hm hN ?_
  refine g1 ?_
  refine g1 ?_
  refine g1 ?_
  refine gc1 ?_ (call1 ok_L_markInt16S (xs, _) [0] (hpre := by (try dsimp only); exact ⟨hl, hk0, hk⟩) (hfo := by intro o ho; simp only [List.nil_append, List.append_nil, List.mem_append, List.mem_singleton, List.mem_cons, List.not_mem_nil, or_false, false_or] at ho; (try rcases ho with rfl | rfl); (try subst ho); exact flat_ints _ _ _ _ _))
  refine g1 ?_
  refine awp_seq ?_
  refine r1 T0_ok hP hm hN ?_
  refine g1 ?_
  refine g1 ?_
  refine awp_ret ?_
  refine fin_mk [] rfl rfl ?_ (objs_cons rfl rfl rfl rfl rfl (.inl rfl) objs_nil) (by decide)
  rfl

theorem heldR16_cases (xs : List Int) {k : Int} (hk : 0 ≤ k) : heldR_i16 xs k = -1 ∨ 0 ≤ heldR_i16 xs k := by
  unfold heldR_i16
  split
  · right; omega
  · exact .inl rfl

noncomputable abbrev s_L_heldCase : Spec (Cs × Int) where
  args := fun x => [caseD x.1, .val (.int .i64 x.2)]
  pre := fun x => x.1.2.2.length ≤ 4611686018427387904 ∧ 0 ≤ x.2 ∧ x.2 + x.1.2.2.length ≤ 4611686018427387904
  res := fun x => .val (.int .i64 (heldR_i16 x.1.2.2 x.2))

set_option maxRecDepth 20000 in
set_option maxHeartbeats 1000000 in
theorem ok_L_heldCase : FnOk Pr 16 s_L_heldCase := by
  refine fn_ok 2 0 T0_ok Go.Proofs.Try.func16 rfl (enters_of Go.Proofs.Try.func16 rfl rfl) (fun _ => rfl) (fun _ => rfl) (fun _ => rfl) ?_
  rintro ⟨⟨p, q, xs⟩, k⟩ ⟨hl, hk0, hk⟩ C hP hN hm hG
  change awp C _ _ ⟨[(0, .agg [.val (.int .i16 p), .val (.int .i32 q), .sl 1 (i16s xs)]), (1, .val (.int .i64 k))], [], 0⟩
  simp only at hl hk0 hk
  have hcs := heldR16_cases xs hk0
  refine awp_seq ?_
  refine r1 T0_ok hP hm hN ?_
  refine g1 ?_
  refine g1 ?_
  refine awp_seq ?_
  refine r1 T0_ok hP hm hN ?_
  refine g1 ?_
  refine g1 ?_
  refine g1 ?_
  refine gc1 ?_ (call1 ok_L_heldInt16S (_, _) [] (hpre := by (try dsimp only); exact ⟨hl, hk0, hk⟩))
  refine g1 ?_
  refine awp_seq ?_
  refine awp_seq ?_
  refine r1 T0_ok hP hm hN ?_
  refine g1 ?_
  refine g1 ?_
  refine awp_cond rfl (fun hc0 => ?_) (fun hc0 => ?_)
  · skip
    refine awp_seq ?_
    refine r1 T0_ok hP hm hN ?_
    refine g1 ?_
    refine awp_ret ?_
    refine fin_mk [] rfl rfl ?_ trivial (by decide)
    simp only [decide_eq_true_eq] at hc0
    show D.val (.int .i64 (heldR_i16 xs k)) = D.val (.int .i64 (-1))
    rw [show heldR_i16 xs k = -1 by omega]
  · skip
    refine awp_skip ?_
    refine awp_seq ?_
    refine r1 T0_ok hP hm hN ?_
    refine g1 ?_
    refine g1 ?_
    refine awp_ret ?_
    refine fin_mk [] rfl rfl ?_ trivial (by decide)
    rfl
end Go.Proofs.Ytclgddkepbpalaa.Abs
