import Derived.Test.YtpdkhlpmiblflaaGreatW7
set_option linter.unusedVariables false
set_option linter.unusedSimpArgs false
namespace Go.Proofs.YtpdkhlpmiblflaaGreat.Abs
open Go Go.RowKit
noncomputable abbrev s_cmp_isNaN_int16 : Spec Int where
  args := fun n => [.val (.int .i16 n)]
  res := fun n => .val (.bool false)

set_option maxRecDepth 20000 in
set_option maxHeartbeats 1000000 in
theorem ok_cmp_isNaN_int16 : FnOk Pr 121 s_cmp_isNaN_int16 := by
 refine fn_ok 1 0 T0_ok Go.Proofs.Tryz.func121 rfl (enters_of Go.Proofs.Tryz.func121 rfl rfl) (fun _ => rfl) (fun _ => rfl) (fun _ => rfl) ?_
 rintro n - C hP hN hm hG
 change awp C _ _ ⟨[(0, .val (.int .i16 n))], [], 0⟩
 refine awp_seq ?_
 refine r1 T0_ok hP hm hN ?_
 refine g1 ?_
 refine awp_seq ?_
 refine r1 T0_ok hP hm hN ?_
 iterate 4 refine g1 ?_
 refine awp_ret ?_
 refine fin_mk [] rfl rfl ?_ trivial (by decide)
 show D.val (.bool false) = D.val (.bool (n != n))
 simp

noncomputable abbrev s_cmp_Compare_int16 : Spec (Int × Int) where
  args := fun x => [.val (.int .i16 x.1), .val (.int .i16 x.2)]
  res := fun x => .val (.int .i64 (cmpI x.1 x.2))

set_option maxRecDepth 20000 in
set_option maxHeartbeats 1000000 in
theorem ok_cmp_Compare_int16 : FnOk Pr 109 s_cmp_Compare_int16 := by
 refine fn_ok 2 0 T0_ok Go.Proofs.Tryz.func109 rfl (enters_of Go.Proofs.Tryz.func109 rfl rfl) (fun _ => rfl) (fun _ => rfl) (fun _ => rfl) ?_
 rintro ⟨x, y⟩ - C hP hN hm hG
 change awp C _ _ ⟨[(0, .val (.int .i16 x)), (1, .val (.int .i16 y))], [], 0⟩
 refine awp_seq ?_
 refine r1 T0_ok hP hm hN ?_
 refine g1 ?_
 refine awp_seq ?_
 refine r1 T0_ok hP hm hN ?_
 refine g1 ?_
 refine gc1 ?_ (call1 ok_cmp_isNaN_int16 _ [])
 refine g1 ?_
 refine awp_seq ?_
 refine r1 T0_ok hP hm hN ?_
 refine g1 ?_
 refine gc1 ?_ (call1 ok_cmp_isNaN_int16 _ [])
 refine g1 ?_
 refine awp_seq ?_
 refine awp_seq ?_
 refine r1 T0_ok hP hm hN ?_
 refine g1 ?_
 refine awp_cond rfl (fun hc0 => ?_) (fun hc0 => ?_)
 ·
  exact absurd hc0 (by decide)
 ·
  refine awp_skip ?_
  refine awp_seq ?_
  refine awp_seq ?_
  refine r1 T0_ok hP hm hN ?_
  refine g1 ?_
  refine awp_cond rfl (fun hc1 => ?_) (fun hc1 => ?_)
  ·
   exact absurd hc1 (by decide)
  ·
   refine awp_skip ?_
   refine awp_seq ?_
   refine awp_seq ?_
   refine r1 T0_ok hP hm hN ?_
   iterate 3 refine g1 ?_
   refine awp_cond rfl (fun hc2 => ?_) (fun hc2 => ?_)
   ·
    refine awp_seq ?_
    refine r1 T0_ok hP hm hN ?_
    refine g1 ?_
    refine awp_ret ?_
    refine fin_mk [] rfl rfl ?_ trivial (by decide)
    simp only [decide_eq_true_eq] at hc2
    show D.val (.int .i64 (cmpI x y)) = D.val (.int .i64 (-1))
    rw [cmpI, if_pos hc2]
   ·
    refine awp_skip ?_
    refine awp_seq ?_
    refine awp_seq ?_
    refine r1 T0_ok hP hm hN ?_
    iterate 3 refine g1 ?_
    refine awp_cond rfl (fun hc3 => ?_) (fun hc3 => ?_)
    ·
     refine awp_seq ?_
     refine r1 T0_ok hP hm hN ?_
     refine g1 ?_
     refine awp_ret ?_
     refine fin_mk [] rfl rfl ?_ trivial (by decide)
     simp only [decide_eq_true_eq, decide_eq_false_iff_not] at hc2 hc3
     show D.val (.int .i64 (cmpI x y)) = D.val (.int .i64 1)
     rw [cmpI, if_neg hc2, if_pos hc3]
    ·
     refine awp_skip ?_
     refine awp_seq ?_
     refine r1 T0_ok hP hm hN ?_
     refine g1 ?_
     refine awp_ret ?_
     refine fin_mk [] rfl rfl ?_ trivial (by decide)
     simp only [decide_eq_false_iff_not] at hc2 hc3
     show D.val (.int .i64 (cmpI x y)) = D.val (.int .i64 0)
     rw [cmpI, if_neg hc2, if_neg hc3]

noncomputable abbrev s_cmp_isNaN_byte : Spec Int where
  args := fun n => [.val (.int .u8 n)]
  res := fun n => .val (.bool false)

set_option maxRecDepth 20000 in
set_option maxHeartbeats 1000000 in
theorem ok_cmp_isNaN_byte : FnOk Pr 116 s_cmp_isNaN_byte := by
 refine fn_ok 1 0 T0_ok Go.Proofs.Tryz.func116 rfl (enters_of Go.Proofs.Tryz.func116 rfl rfl) (fun _ => rfl) (fun _ => rfl) (fun _ => rfl) ?_
 rintro n - C hP hN hm hG
 change awp C _ _ ⟨[(0, .val (.int .u8 n))], [], 0⟩
 refine awp_seq ?_
 refine r1 T0_ok hP hm hN ?_
 refine g1 ?_
 refine awp_seq ?_
 refine r1 T0_ok hP hm hN ?_
 iterate 4 refine g1 ?_
 refine awp_ret ?_
 refine fin_mk [] rfl rfl ?_ trivial (by decide)
 show D.val (.bool false) = D.val (.bool (n != n))
 simp

noncomputable abbrev s_cmp_Compare_byte : Spec (Int × Int) where
  args := fun x => [.val (.int .u8 x.1), .val (.int .u8 x.2)]
  res := fun x => .val (.int .i64 (cmpI x.1 x.2))

set_option maxRecDepth 20000 in
set_option maxHeartbeats 1000000 in
theorem ok_cmp_Compare_byte : FnOk Pr 122 s_cmp_Compare_byte := by
 refine fn_ok 2 0 T0_ok Go.Proofs.Tryz.func122 rfl (enters_of Go.Proofs.Tryz.func122 rfl rfl) (fun _ => rfl) (fun _ => rfl) (fun _ => rfl) ?_
 rintro ⟨x, y⟩ - C hP hN hm hG
 change awp C _ _ ⟨[(0, .val (.int .u8 x)), (1, .val (.int .u8 y))], [], 0⟩
 refine awp_seq ?_
 refine r1 T0_ok hP hm hN ?_
 refine g1 ?_
 refine awp_seq ?_
 refine r1 T0_ok hP hm hN ?_
 refine g1 ?_
 refine gc1 ?_ (call1 ok_cmp_isNaN_byte _ [])
 refine g1 ?_
 refine awp_seq ?_
 refine r1 T0_ok hP hm hN ?_
 refine g1 ?_
 refine gc1 ?_ (call1 ok_cmp_isNaN_byte _ [])
 refine g1 ?_
 refine awp_seq ?_
 refine awp_seq ?_
 refine r1 T0_ok hP hm hN ?_
 refine g1 ?_
 refine awp_cond rfl (fun hc0 => ?_) (fun hc0 => ?_)
 ·
  exact absurd hc0 (by decide)
 ·
  refine awp_skip ?_
  refine awp_seq ?_
  refine awp_seq ?_
  refine r1 T0_ok hP hm hN ?_
  refine g1 ?_
  refine awp_cond rfl (fun hc1 => ?_) (fun hc1 => ?_)
  ·
   exact absurd hc1 (by decide)
  ·
   refine awp_skip ?_
   refine awp_seq ?_
   refine awp_seq ?_
   refine r1 T0_ok hP hm hN ?_
   iterate 3 refine g1 ?_
   refine awp_cond rfl (fun hc2 => ?_) (fun hc2 => ?_)
   ·
    refine awp_seq ?_
    refine r1 T0_ok hP hm hN ?_
    refine g1 ?_
    refine awp_ret ?_
    refine fin_mk [] rfl rfl ?_ trivial (by decide)
    simp only [decide_eq_true_eq] at hc2
    show D.val (.int .i64 (cmpI x y)) = D.val (.int .i64 (-1))
    rw [cmpI, if_pos hc2]
   ·
    refine awp_skip ?_
    refine awp_seq ?_
    refine awp_seq ?_
    refine r1 T0_ok hP hm hN ?_
    iterate 3 refine g1 ?_
    refine awp_cond rfl (fun hc3 => ?_) (fun hc3 => ?_)
    ·
     refine awp_seq ?_
     refine r1 T0_ok hP hm hN ?_
     refine g1 ?_
     refine awp_ret ?_
     refine fin_mk [] rfl rfl ?_ trivial (by decide)
     simp only [decide_eq_true_eq, decide_eq_false_iff_not] at hc2 hc3
     show D.val (.int .i64 (cmpI x y)) = D.val (.int .i64 1)
     rw [cmpI, if_neg hc2, if_pos hc3]
    ·
     refine awp_skip ?_
     refine awp_seq ?_
     refine r1 T0_ok hP hm hN ?_
     refine g1 ?_
     refine awp_ret ?_
     refine fin_mk [] rfl rfl ?_ trivial (by decide)
     simp only [decide_eq_false_iff_not] at hc2 hc3
     show D.val (.int .i64 (cmpI x y)) = D.val (.int .i64 0)
     rw [cmpI, if_neg hc2, if_neg hc3]

theorem cmp3_drop {xs ys : List Int} {i : Nat} (h : i < xs.length) (h2 : i < ys.length) : cmp3 (xs.drop i) (ys.drop i) = if cmpI (xs.getD i 0) (ys.getD i 0) != 0 then cmpI (xs.getD i 0) (ys.getD i 0) else cmp3 (xs.drop (i + 1)) (ys.drop (i + 1)) := by
  rw [List.drop_eq_getElem_cons h, List.drop_eq_getElem_cons h2, cmp3]
  simp [List.getD, h, h2]
theorem cmp3_long {xs ys : List Int} {i : Nat} (h : i < xs.length) (h2 : ¬ i < ys.length) : cmp3 (xs.drop i) (ys.drop i) = 1 := by
  rw [List.drop_eq_getElem_cons h, List.drop_eq_nil_of_le (show ys.length ≤ i by omega)]; rfl
theorem cmp3_end {xs ys : List Int} {i : Nat} (h : i = xs.length) : cmp3 (xs.drop i) (ys.drop i) = if i < ys.length then -1 else 0 := by
  rw [List.drop_eq_nil_of_le (show xs.length ≤ i by omega)]
  split
  · rename_i h2; rw [List.drop_eq_getElem_cons h2]; rfl
  · rw [List.drop_eq_nil_of_le (show ys.length ≤ i by omega)]; rfl

noncomputable abbrev s_slices_Compare_byte_byte : Spec (List Int × List Int) where
  args := fun x => [.sl 1 (ints .u8 x.1), .sl 1 (ints .u8 x.2)]
  pre := fun x => x.1.length ≤ 1000 ∧ x.2.length ≤ 1000
  res := fun x => .val (.int .i64 (cmp3 x.1 x.2))

set_option maxRecDepth 20000 in
set_option maxHeartbeats 1000000 in
theorem ok_slices_Compare_byte_byte : FnOk Pr 110 s_slices_Compare_byte_byte := by
 refine fn_ok 2 0 T0_ok Go.Proofs.Tryz.func110 rfl (enters_of Go.Proofs.Tryz.func110 rfl rfl) (fun _ => rfl) (fun _ => rfl) (fun _ => rfl) ?_
 rintro ⟨xs, ys⟩ ⟨hl, hl2⟩ C hP hN hm hG
 change awp C _ _ ⟨[(0, .sl 1 (ints .u8 xs)), (1, .sl 1 (ints .u8 ys))], [], 0⟩
 simp only at hl hl2
 refine awp_seq ?_
 refine r1 T0_ok hP hm hN ?_
 refine g1 ?_
 refine awp_seq ?_
 refine awp_seq ?_
 refine r1 T0_ok hP hm hN ?_
 iterate 3 refine g1 ?_
 refine awp_block ?_
 refine awp_loop (fun n st => ∃ i : Nat, i ≤ xs.length ∧ (cmp3 xs ys = cmp3 (xs.drop i) (ys.drop i)) ∧ n = xs.length - i ∧ st = ⟨[(11, .val (.int .i64 (i : Nat))), (10, .val (.int .i64 (xs.length : Nat))), (9, .sl 1 (ints .u8 xs)), (0, .sl 1 (ints .u8 xs)), (1, .sl 1 (ints .u8 ys))], [], 0⟩) (xs.length) ⟨_, weak_sl (sub_cons rfl (sub_cons rfl (sub_cons rfl (sub_cons rfl (sub_cons rfl (sub_nil)))))), 0, by omega, by simp, rfl, rfl⟩ ?_
 rintro n st ⟨i, hii, hall, hni, rfl⟩
 refine awp_seq ?_
 refine r1 T0_ok hP hm hN ?_
 refine g1 ?_
 refine awp_seq ?_
 refine awp_cond rfl (fun hc0 => ?_) (fun hc0 => ?_)
 ·
  have hlti : i < xs.length := by simpa using hc0
  refine awp_skip ?_
  refine awp_seq ?_
  refine awp_block ?_
  refine awp_seq ?_
  refine r1 T0_ok hP hm hN ?_
  iterate 5 refine g1 ?_
  refine awp_seq ?_
  refine awp_seq ?_
  refine r1 T0_ok hP hm hN ?_
  iterate 4 refine g1 ?_
  refine awp_cond rfl (fun hc1 => ?_) (fun hc1 => ?_)
  ·
   refine awp_seq ?_
   refine r1 T0_ok hP hm hN ?_
   refine g1 ?_
   refine awp_ret ?_
   refine fin_mk [] rfl rfl ?_ trivial (by decide)
   show D.val (.int .i64 (cmp3 xs ys)) = D.val (.int .i64 1)
   rw [hall, cmp3_long hlti (by simp at hc1; omega)]
  ·
   have hy : i < ys.length := by simp at hc1; omega
   have hd := cmp3_drop hlti hy
   refine awp_skip ?_
   refine awp_seq ?_
   refine r1 T0_ok hP hm hN ?_
   iterate 5 refine g1 ?_
   refine awp_seq ?_
   refine r1 T0_ok hP hm hN ?_
   iterate 2 refine g1 ?_
   refine gc1 ?_ (call1 ok_cmp_Compare_byte (_, _) [])
   refine g1 ?_
   refine awp_seq ?_
   refine r1 T0_ok hP hm hN ?_
   iterate 2 refine g1 ?_
   refine awp_cond rfl (fun hc2 => ?_) (fun hc2 => ?_)
   ·
    refine awp_seq ?_
    refine r1 T0_ok hP hm hN ?_
    iterate 2 refine g1 ?_
    refine awp_ret ?_
    refine fin_mk [] rfl rfl ?_ trivial (by decide)
    show D.val (.int .i64 (cmp3 xs ys)) = D.val (.int .i64 (cmpI (xs.getD i 0) (ys.getD i 0)))
    rw [hall, hd, if_pos hc2]
   ·
    refine awp_skip ?_
    refine r1 T0_ok hP hm hN ?_
    iterate 2 refine g1 ?_
    refine ⟨xs.length - (i + 1), _, by omega, weak_sl (sub_cons rfl (sub_cons rfl (sub_cons rfl (sub_cons rfl (sub_cons rfl (sub_nil)))))), i + 1, by omega, by rw [hall, hd, if_neg (by rw [hc2]; simp)], rfl, rfl⟩
 ·
  have hgei : ¬ i < xs.length := by simpa using hc0
  have heqi : i = xs.length := by omega
  refine awp_exit ?_
  repeat refine thenA_exit ?_
  refine blockA_hit ?_
  refine awp_seq ?_
  refine awp_seq ?_
  refine r1 T0_ok hP hm hN ?_
  iterate 5 refine g1 ?_
  refine awp_cond rfl (fun hc3 => ?_) (fun hc3 => ?_)
  ·
   refine awp_seq ?_
   refine r1 T0_ok hP hm hN ?_
   refine g1 ?_
   refine awp_ret ?_
   refine fin_mk [] rfl rfl ?_ trivial (by decide)
   show D.val (.int .i64 (cmp3 xs ys)) = D.val (.int .i64 (-1))
   rw [hall, cmp3_end heqi, if_pos (by simp at hc3; omega)]
  ·
   refine awp_skip ?_
   refine awp_seq ?_
   refine r1 T0_ok hP hm hN ?_
   refine g1 ?_
   refine awp_ret ?_
   refine fin_mk [] rfl rfl ?_ trivial (by decide)
   show D.val (.int .i64 (cmp3 xs ys)) = D.val (.int .i64 0)
   rw [hall, cmp3_end heqi, if_neg (by simp at hc3; omega)]

noncomputable abbrev s_I_field : Spec Int where
  args := fun n => [i8D n]
  pre := fun n => -128 ≤ n ∧ n ≤ 127
  res := fun n => i8D (fldS n)

set_option maxRecDepth 20000 in
set_option maxHeartbeats 1000000 in
theorem ok_I_field : FnOk Pr 90 s_I_field := by
 refine fn_ok 1 0 T0_ok Go.Proofs.Tryz.func90 rfl (enters_of Go.Proofs.Tryz.func90 rfl rfl) (fun _ => rfl) (fun _ => rfl) (fun _ => rfl) ?_
 rintro n ⟨h1, h2⟩ C hP hN hm hG
 change awp C _ _ ⟨[(0, i8D n)], [], 0⟩
 have h1 : -128 ≤ n := h1
 have h2 : n ≤ 127 := h2
 have xn1 := @maxIf
 refine awp_seq ?_
 refine r1 T0_ok hP hm hN ?_
 refine g1 ?_
 refine awp_seq ?_
 refine r1 T0_ok hP hm hN ?_
 iterate 5 refine g1 ?_
 refine awp_ret ?_
 refine fin_mk [] rfl rfl ?_ trivial (by decide)
 show D.val (.int .i8 (fldS n)) = _
 unfold fldS
 by_cases h : n < 0
 · rw [if_pos h]
   by_cases h3 : n = -128
   · subst h3; rfl
   · rw [wI8 (by omega) (by omega)]
     show D.val (.int .i8 (0 - n)) = D.val (.int .i8 (max n (0 - n)))
     rw [show max n (0 - n) = 0 - n by omega]
 · rw [if_neg h]
   show D.val (.int .i8 n) = D.val (.int .i8 (max n (IntKind.i8.wrap (0 - n))))
   rw [wI8 (by omega) (by omega), show max n (0 - n) = n by omega]

noncomputable abbrev s_I_compareIn : Spec (Int × Bk × Bk) where
  args := fun x => [i8D x.1, bkD x.2.1, bkD x.2.2]
  res := fun x => .val (.int .i64 (cmpF x.1 x.2.1 x.2.2))

set_option maxRecDepth 20000 in
set_option maxHeartbeats 1000000 in
theorem ok_I_compareIn : FnOk Pr 89 s_I_compareIn := by
 refine fn_ok 3 0 T0_ok Go.Proofs.Tryz.func89 rfl (enters_of Go.Proofs.Tryz.func89 rfl rfl) (fun _ => rfl) (fun _ => rfl) (fun _ => rfl) ?_
 rintro ⟨f, x, y⟩ - C hP hN hm hG
 change awp C _ _ ⟨[(0, i8D f), (1, .val (.agg #[.int .i16 x.cls, .int .u8 x.m0, .int .u8 x.m1, .int .u8 x.m2, .int .i16 x.vol, .int .i16 x.wide, .int .i16 x.high, .int .i16 x.weight])), (2, .val (.agg #[.int .i16 y.cls, .int .u8 y.m0, .int .u8 y.m1, .int .u8 y.m2, .int .i16 y.vol, .int .i16 y.wide, .int .i16 y.high, .int .i16 y.weight]))], [], 0⟩
 refine awp_seq ?_
 refine r1 T0_ok hP hm hN ?_
 iterate 3 refine g1 ?_
 refine awp_seq ?_
 refine awp_seq ?_
 refine r1 T0_ok hP hm hN ?_
 refine g1 ?_
 refine awp_block ?_
 refine awp_seq ?_
 refine r1 T0_ok hP hm hN ?_
 iterate 2 refine g1 ?_
 refine awp_cond rfl (fun hc0 => ?_) (fun hc0 => ?_)
 ·
  refine awp_seq ?_
  refine r1 T0_ok hP hm hN ?_
  iterate 4 refine g1 ?_
  refine gc1 ?_ (call1 ok_cmp_Compare_int16 (_, _) [])
  refine g1 ?_
  refine awp_ret ?_
  refine fin_mk [] rfl rfl ?_ trivial (by decide)
  show D.val (.int .i64 (cmpF f x y)) = _
  simp only [cmpF, hc0, if_true]
  rfl
 ·
  refine awp_seq ?_
  refine r1 T0_ok hP hm hN ?_
  iterate 2 refine g1 ?_
  refine awp_cond rfl (fun hc1 => ?_) (fun hc1 => ?_)
  ·
   refine awp_seq ?_
   refine awp_draw T0_ok hP hm hN Pr_mix [0, 1, 2, 3, 4, 5, 6, 7, 8, 9, 10, 11] [4] _ rfl (by rfl) ?_
   iterate 4 refine d1 T0_ok ?_
   refine dp1 ?_ (call1 ok_slices_Compare_byte_byte (marks x, marks y) [] (hpre := by (try dsimp only); exact ⟨by simp, by simp⟩))
   refine d1 T0_ok ?_
   refine dreg_nil ?_
   refine awp_ret ?_
   refine fin_mk [] rfl rfl ?_ trivial (by decide)
   show D.val (.int .i64 (cmpF f x y)) = _
   simp only [cmpF, hc0, hc1, if_true, Bool.false_eq_true, if_false]
   rfl
  ·
   refine awp_seq ?_
   refine r1 T0_ok hP hm hN ?_
   iterate 2 refine g1 ?_
   refine awp_cond rfl (fun hc2 => ?_) (fun hc2 => ?_)
   ·
    refine awp_seq ?_
    refine r1 T0_ok hP hm hN ?_
    iterate 4 refine g1 ?_
    refine gc1 ?_ (call1 ok_cmp_Compare_int16 (_, _) [])
    refine g1 ?_
    refine awp_ret ?_
    refine fin_mk [] rfl rfl ?_ trivial (by decide)
    show D.val (.int .i64 (cmpF f x y)) = _
    simp only [cmpF, hc0, hc1, hc2, if_true, Bool.false_eq_true, if_false]
    rfl
   ·
    refine awp_seq ?_
    refine r1 T0_ok hP hm hN ?_
    iterate 2 refine g1 ?_
    refine awp_cond rfl (fun hc3 => ?_) (fun hc3 => ?_)
    ·
     refine awp_seq ?_
     refine r1 T0_ok hP hm hN ?_
     iterate 4 refine g1 ?_
     refine gc1 ?_ (call1 ok_cmp_Compare_int16 (_, _) [])
     refine g1 ?_
     refine awp_ret ?_
     refine fin_mk [] rfl rfl ?_ trivial (by decide)
     show D.val (.int .i64 (cmpF f x y)) = _
     simp only [cmpF, hc0, hc1, hc2, hc3, if_true, Bool.false_eq_true, if_false]
     rfl
    ·
     refine awp_seq ?_
     refine r1 T0_ok hP hm hN ?_
     iterate 2 refine g1 ?_
     refine awp_cond rfl (fun hc4 => ?_) (fun hc4 => ?_)
     ·
      refine awp_seq ?_
      refine r1 T0_ok hP hm hN ?_
      iterate 4 refine g1 ?_
      refine gc1 ?_ (call1 ok_cmp_Compare_int16 (_, _) [])
      refine g1 ?_
      refine awp_ret ?_
      refine fin_mk [] rfl rfl ?_ trivial (by decide)
      show D.val (.int .i64 (cmpF f x y)) = _
      simp only [cmpF, hc0, hc1, hc2, hc3, hc4, if_true, Bool.false_eq_true, if_false]
      rfl
     ·
      refine awp_skip ?_
      refine awp_seq ?_
      refine r1 T0_ok hP hm hN ?_
      iterate 4 refine g1 ?_
      refine gc1 ?_ (call1 ok_cmp_Compare_int16 (_, _) [])
      refine g1 ?_
      refine awp_ret ?_
      refine fin_mk [] rfl rfl ?_ trivial (by decide)
      show D.val (.int .i64 (cmpF f x y)) = _
      simp only [cmpF, hc0, hc1, hc2, hc3, hc4, Bool.false_eq_true, if_false]
      rfl

noncomputable abbrev s_I_compareBy : Spec (List Int × Bk × Bk) where
  args := fun x => [.sl 1 (ints .i8 x.1), bkD x.2.1, bkD x.2.2]
  pre := fun x => (∀ n ∈ x.1, -128 ≤ n ∧ n ≤ 127) ∧ x.1.length ≤ 9223372036854775807
  res := fun x => .val (.int .i64 (cmpBy x.1 x.2.1 x.2.2))

set_option maxRecDepth 20000 in
set_option maxHeartbeats 1000000 in
theorem ok_I_compareBy : FnOk Pr 72 s_I_compareBy := by
 refine fn_ok 3 0 T0_ok Go.Proofs.Tryz.func72 rfl (enters_of Go.Proofs.Tryz.func72 rfl rfl) (fun _ => rfl) (fun _ => rfl) (fun _ => rfl) ?_
 rintro ⟨os, x, y⟩ ⟨hv, hl⟩ C hP hN hm hG
 change awp C _ _ ⟨[(0, .sl 1 (ints .i8 os)), (1, .val (.agg #[.int .i16 x.cls, .int .u8 x.m0, .int .u8 x.m1, .int .u8 x.m2, .int .i16 x.vol, .int .i16 x.wide, .int .i16 x.high, .int .i16 x.weight])), (2, .val (.agg #[.int .i16 y.cls, .int .u8 y.m0, .int .u8 y.m1, .int .u8 y.m2, .int .i16 y.vol, .int .i16 y.wide, .int .i16 y.high, .int .i16 y.weight]))], [], 0⟩
 simp only at hv hl
 refine awp_seq ?_
 refine r1 T0_ok hP hm hN ?_
 iterate 3 refine g1 ?_
 refine awp_seq ?_
 refine awp_seq ?_
 refine r1 T0_ok hP hm hN ?_
 iterate 3 refine g1 ?_
 refine awp_block ?_
 refine awp_loop (fun n st => ∃ i : Nat, i ≤ os.length ∧ (cmpBy os x y = cmpBy (os.drop i) x y) ∧ n = os.length - i ∧ st = ⟨[(12, .val (.int .i64 (i : Nat))), (11, .val (.int .i64 (os.length : Nat))), (10, .sl 1 (ints .i8 os)), (4, .ptr 0 0 0), (5, .ptr 1 0 0)], [(1, ⟨73, 8, true, [bkRow y]⟩), (0, ⟨73, 8, true, [bkRow x]⟩)], 2⟩) (os.length) ⟨_, weak_sl (sub_cons rfl (sub_cons rfl (sub_cons rfl (sub_cons rfl (sub_cons rfl (sub_nil)))))), 0, by omega, by simp, rfl, rfl⟩ ?_
 rintro n st ⟨i, hii, hall, hni, rfl⟩
 refine awp_seq ?_
 refine r1 T0_ok hP hm hN ?_
 refine g1 ?_
 refine awp_seq ?_
 refine awp_cond rfl (fun hc0 => ?_) (fun hc0 => ?_)
 ·
  have hlti : i < os.length := by simpa using hc0
  have hb := hv _ (getD_mem' (d := 0) hlti)
  have hd := cmpBy_drop hlti x y
  have hcs := cmpF_cases (fldS (os.getD i 0)) x y
  refine awp_skip ?_
  refine awp_seq ?_
  refine awp_block ?_
  refine awp_seq ?_
  refine r1 T0_ok hP hm hN ?_
  iterate 3 refine g1 ?_
  refine awp_seq ?_
  refine awp_draw T0_ok hP hm hN Pr_mix [0, 1, 2, 3, 4, 5, 6, 7, 8, 9, 10, 11] [1, 4] _ rfl (by rfl) ?_
  refine d1 T0_ok ?_
  refine dp1 ?_ (call1 ok_I_field _ [])
  iterate 2 refine d1 T0_ok ?_
  refine dp1 ?_ (call1 ok_I_compareIn (_, _, _) [])
  refine d1 T0_ok ?_
  refine dreg_nil ?_
  refine awp_seq ?_
  refine awp_seq ?_
  refine r1 T0_ok hP hm hN ?_
  iterate 2 refine g1 ?_
  refine awp_cond rfl (fun hc1 => ?_) (fun hc1 => ?_)
  ·
   have heq : (if os.getD i 0 < 0 then -cmpF (fldS (os.getD i 0)) x y else cmpF (fldS (os.getD i 0)) x y) = 0 - cmpF (fldS (os.getD i 0)) x y := by rw [if_pos (by simpa using hc1)]; omega
   refine r1 T0_ok hP hm hN ?_
   iterate 3 refine g1 ?_
   refine awp_seq ?_
   refine r1 T0_ok hP hm hN ?_
   iterate 2 refine g1 ?_
   refine awp_cond rfl (fun hcx => ?_) (fun hcx => ?_)
   ·
    refine awp_seq ?_
    refine r1 T0_ok hP hm hN ?_
    iterate 2 refine g1 ?_
    refine awp_ret ?_
    refine fin_mk [] rfl rfl ?_ trivial (by decide)
    show D.val (.int .i64 (cmpBy os x y)) = _
    rw [hall, hd, if_pos (by rw [heq]; exact hcx), heq]
    rfl
   ·
    refine awp_skip ?_
    refine r1 T0_ok hP hm hN ?_
    iterate 2 refine g1 ?_
    refine ⟨os.length - (i + 1), _, by omega, weak_sl (sub_cons rfl (sub_cons rfl (sub_cons rfl (sub_cons rfl (sub_cons rfl (sub_nil)))))), i + 1, by omega, by rw [hall, hd, if_neg (by rw [heq]; rw [hcx]; simp)], rfl, rfl⟩
  ·
   have heq : (if os.getD i 0 < 0 then -cmpF (fldS (os.getD i 0)) x y else cmpF (fldS (os.getD i 0)) x y) = cmpF (fldS (os.getD i 0)) x y := by rw [if_neg (by simpa using hc1)]
   refine awp_skip ?_
   refine awp_seq ?_
   refine r1 T0_ok hP hm hN ?_
   iterate 2 refine g1 ?_
   refine awp_cond rfl (fun hcx => ?_) (fun hcx => ?_)
   ·
    refine awp_seq ?_
    refine r1 T0_ok hP hm hN ?_
    iterate 2 refine g1 ?_
    refine awp_ret ?_
    refine fin_mk [] rfl rfl ?_ trivial (by decide)
    show D.val (.int .i64 (cmpBy os x y)) = _
    rw [hall, hd, if_pos (by rw [heq]; exact hcx), heq]
    rfl
   ·
    refine awp_skip ?_
    refine r1 T0_ok hP hm hN ?_
    iterate 2 refine g1 ?_
    refine ⟨os.length - (i + 1), _, by omega, weak_sl (sub_cons rfl (sub_cons rfl (sub_cons rfl (sub_cons rfl (sub_cons rfl (sub_nil)))))), i + 1, by omega, by rw [hall, hd, if_neg (by rw [heq]; rw [hcx]; simp)], rfl, rfl⟩
 ·
  have hgei : ¬ i < os.length := by simpa using hc0
  have heqi : i = os.length := by omega
  refine awp_exit ?_
  repeat refine thenA_exit ?_
  refine blockA_hit ?_
  refine awp_seq ?_
  refine r1 T0_ok hP hm hN ?_
  refine g1 ?_
  refine awp_ret ?_
  refine fin_mk [] rfl rfl ?_ trivial (by decide)
  show D.val (.int .i64 (cmpBy os x y)) = _
  rw [hall, List.drop_eq_nil_of_le (by omega)]
  rfl

noncomputable abbrev s_I_usual : Spec Unit where
  args := fun _ => []
  new := fun _ => [⟨33, 1, false, ints .i8 usualO⟩]
  res := fun _ => .own 0

set_option maxRecDepth 20000 in
set_option maxHeartbeats 1000000 in
theorem ok_I_usual : FnOk Pr 73 s_I_usual := by
 refine fn_ok 0 0 T0_ok Go.Proofs.Tryz.func73 rfl (enters_of Go.Proofs.Tryz.func73 rfl rfl) (fun _ => rfl) (fun _ => rfl) (fun _ => rfl) ?_
 rintro ⟨⟩ - C hP hN hm hG
 change awp C _ _ ⟨[], [], 0⟩
 refine awp_seq ?_
 refine r1 T0_ok hP hm hN ?_
 refine g1 ?_
 refine awp_seq ?_
 refine r1 T0_ok hP hm hN ?_
 iterate 2 refine g1 ?_
 refine awp_ret ?_
 refine fin_mk [0] rfl rfl ?_ (objs_cons rfl rfl rfl rfl rfl (.inl rfl) objs_nil) (by decide)
 rfl

noncomputable abbrev s_I_compare : Spec (Bk × Bk) where
  args := fun x => [bkD x.1, bkD x.2]
  res := fun x => .val (.int .i64 (cmpU x.1 x.2))

set_option maxRecDepth 20000 in
set_option maxHeartbeats 1000000 in
theorem ok_I_compare : FnOk Pr 48 s_I_compare := by
 refine fn_ok 2 0 T0_ok Go.Proofs.Tryz.func48 rfl (enters_of Go.Proofs.Tryz.func48 rfl rfl) (fun _ => rfl) (fun _ => rfl) (fun _ => rfl) ?_
 rintro ⟨x, y⟩ - C hP hN hm hG
 change awp C _ _ ⟨[(0, .val (.agg #[.int .i16 x.cls, .int .u8 x.m0, .int .u8 x.m1, .int .u8 x.m2, .int .i16 x.vol, .int .i16 x.wide, .int .i16 x.high, .int .i16 x.weight])), (1, .val (.agg #[.int .i16 y.cls, .int .u8 y.m0, .int .u8 y.m1, .int .u8 y.m2, .int .i16 y.vol, .int .i16 y.wide, .int .i16 y.high, .int .i16 y.weight]))], [], 0⟩
 refine awp_seq ?_
 refine r1 T0_ok hP hm hN ?_
 iterate 3 refine g1 ?_
 refine awp_seq ?_
 refine awp_draw T0_ok hP hm hN Pr_mix [0, 1, 2, 3, 4, 5, 6, 7, 8, 9, 10, 11] [0, 3] _ rfl (by rfl) ?_
 refine dp1 ?_ (call1 ok_I_usual () [])
 iterate 2 refine d1 T0_ok ?_
 refine dp1 ?_ (call1 ok_I_compareBy (usualO, _, _) [] (hpre := by (try dsimp only); exact ⟨by decide, by simp⟩))
 refine d1 T0_ok ?_
 refine dreg_nil ?_
 refine awp_ret ?_
 refine fin_mk [] rfl rfl ?_ trivial (by decide)
 rfl
end Go.Proofs.YtpdkhlpmiblflaaGreat.Abs

