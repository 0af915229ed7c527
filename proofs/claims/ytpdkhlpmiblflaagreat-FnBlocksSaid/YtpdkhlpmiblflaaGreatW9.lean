import Derived.Test.YtpdkhlpmiblflaaGreatW8
set_option linter.unusedVariables false
set_option linter.unusedSimpArgs false
namespace Go.Proofs.YtpdkhlpmiblflaaGreat.Abs
open Go Go.RowKit
def nums (f : Int) (b : Bk) : Int × Int × Int := if f == 1 then (b.cls, 0, 0) else if f == 2 then (b.m0, b.m1, b.m2) else if f == 3 then (b.vol, 0, 0) else if f == 4 then (b.wide, 0, 0) else if f == 5 then (b.high, 0, 0) else (b.weight, 0, 0)
def lex3 (a b : Int × Int × Int) : Int := if a.1 != b.1 then cmpI a.1 b.1 else if a.2.1 != b.2.1 then cmpI a.2.1 b.2.1 else cmpI a.2.2 b.2.2
theorem cmpI_self (a : Int) : cmpI a a = 0 := by simp [cmpI]
theorem cmpI_ne {a b : Int} (h : a ≠ b) : (cmpI a b != 0) = true := by unfold cmpI; split; rfl; split; rfl; omega
theorem lex3_0 {a b : Int × Int × Int} (h : a.1 ≠ b.1) : lex3 a b = cmpI a.1 b.1 := by simp [lex3, h]
theorem lex3_1 {a b : Int × Int × Int} (h : a.1 = b.1) (h1 : a.2.1 ≠ b.2.1) : lex3 a b = cmpI a.2.1 b.2.1 := by simp [lex3, h, h1]
theorem lex3_2 {a b : Int × Int × Int} (h : a.1 = b.1) (h1 : a.2.1 = b.2.1) : lex3 a b = cmpI a.2.2 b.2.2 := by simp [lex3, h, h1]
theorem lex3_one (a b : Int) : lex3 (a, 0, 0) (b, 0, 0) = cmpI a b := by
  unfold lex3
  by_cases h : a = b
  · subst h; simp [cmpI_self]
  · simp [h]
theorem cmpF_nums (f : Int) (a b : Bk) : cmpF f a b = lex3 (nums f a) (nums f b) := by
  unfold cmpF nums
  repeat' split
  all_goals first | rw [lex3_one] | skip
  unfold lex3 cmp3
  by_cases h0 : a.m0 = b.m0
  · rw [h0, cmpI_self]
    unfold cmp3
    by_cases h1 : a.m1 = b.m1
    · rw [h1, cmpI_self]
      unfold cmp3
      by_cases h2 : a.m2 = b.m2
      · rw [h2, cmpI_self]; simp [cmp3]
      · simp [cmpI_ne h2]
    · simp [cmpI_ne h1, h1]
  · simp [cmpI_ne h0, h0]
theorem cmp_ret {f c xq yq R : Int} (hf : f ≠ 0) (hne : xq ≠ yq) (hc : c = cmpI xq yq) {b : Bool} (h : ((decide (xq < yq)) == decide (f > 0)) = b) : (if (if f < 0 then -c else c) != 0 then (if f < 0 then -c else c) else R) = if b then -1 else 1 := by
  subst hc
  subst h
  unfold cmpI
  by_cases h1 : xq < yq
  · by_cases h2 : f < 0
    · simp [h1, h2, show ¬ f > 0 by omega]
    · simp [h1, h2, show f > 0 by omega]
  · by_cases h2 : f < 0
    · simp [h1, h2, show ¬ f > 0 by omega, show xq > yq by omega]
    · simp [h1, h2, show f > 0 by omega, show xq > yq by omega]
theorem cmp_go0 {f c R : Int} (hc : c = 0) : (if (if f < 0 then -c else c) != 0 then (if f < 0 then -c else c) else R) = R := by
  subst hc
  split <;> simp_all

noncomputable abbrev s_S_l01Field : Spec Int where
  args := fun n => [i8D n]
  res := fun n => i8D (fldS n)

set_option maxRecDepth 20000 in
set_option maxHeartbeats 1000000 in
theorem ok_S_l01Field : FnOk Pr 64 s_S_l01Field := by
 refine fn_ok 1 0 T0_ok Go.Proofs.Tryz.func64 rfl (enters_of Go.Proofs.Tryz.func64 rfl rfl) (fun _ => rfl) (fun _ => rfl) (fun _ => rfl) ?_
 rintro n - C hP hN hm hG
 change awp C _ _ ⟨[(0, i8D n)], [], 0⟩
 refine awp_seq ?_
 refine r1 T0_ok hP hm hN ?_
 refine g1 ?_
 refine awp_seq ?_
 refine awp_seq ?_
 refine r1 T0_ok hP hm hN ?_
 iterate 2 refine g1 ?_
 refine awp_cond rfl (fun hc0 => ?_) (fun hc0 => ?_)
 ·
  refine awp_seq ?_
  refine r1 T0_ok hP hm hN ?_
  iterate 3 refine g1 ?_
  refine awp_ret ?_
  refine fin_mk [] rfl rfl ?_ trivial (by decide)
  show D.val (.int .i8 (fldS n)) = _
  rw [fldS, if_pos (by simpa using hc0)]
  rfl
 ·
  refine awp_skip ?_
  refine awp_seq ?_
  refine r1 T0_ok hP hm hN ?_
  iterate 2 refine g1 ?_
  refine awp_ret ?_
  refine fin_mk [] rfl rfl ?_ trivial (by decide)
  show D.val (.int .i8 (fldS n)) = _
  rw [fldS, if_neg (by simpa using hc0)]
  rfl

noncomputable abbrev s_S_l01Numbers : Spec (Nat × List (List D) × Nat × Bool × Int × Bk × Int) where
  args := fun x => [.rptr x.1 x.2.1 x.2.2.1 (offK x.2.2.2.1), i8D x.2.2.2.2.2.2]
  pre := fun x => x.2.1[x.2.2.1]? = some (rowK x.2.2.2.1 x.2.2.2.2.1 x.2.2.2.2.2.1) ∧ isBk x.2.2.2.2.2.1
  res := fun x => .val (.agg #[.int .i64 (nums x.2.2.2.2.2.2 x.2.2.2.2.2.1).1, .int .i64 (nums x.2.2.2.2.2.2 x.2.2.2.2.2.1).2.1, .int .i64 (nums x.2.2.2.2.2.2 x.2.2.2.2.2.1).2.2])

set_option maxRecDepth 20000 in
set_option maxHeartbeats 4000000 in
theorem ok_S_l01Numbers : FnOk Pr 86 s_S_l01Numbers := by
 refine fn_ok 2 0 T0_ok Go.Proofs.Tryz.func86 rfl (enters_of Go.Proofs.Tryz.func86 rfl rfl) (fun _ => rfl) (fun _ => rfl) (fun _ => rfl) ?_
 rintro ⟨sz, rows, i, k, z, x, f⟩ ⟨hrow, hb⟩ C hP hN hm hG
 cases k
 ·
  change awp C _ _ ⟨[(0, .rptr sz rows i 0), (1, i8D f)], [], 0⟩
  have hrow : rows[i]? = some (bkRow x) := hrow
  obtain ⟨hb_0, hb_1, hb_2, hb_3, hb_4, hb_5, hb_6, hb_7⟩ := hb
  have hb_0 : -32768 ≤ x.cls ∧ x.cls ≤ 32767 := hb_0
  have hb_1 : 0 ≤ x.m0 ∧ x.m0 ≤ 255 := hb_1
  have hb_2 : 0 ≤ x.m1 ∧ x.m1 ≤ 255 := hb_2
  have hb_3 : 0 ≤ x.m2 ∧ x.m2 ≤ 255 := hb_3
  have hb_4 : -32768 ≤ x.vol ∧ x.vol ≤ 32767 := hb_4
  have hb_5 : -32768 ≤ x.wide ∧ x.wide ≤ 32767 := hb_5
  have hb_6 : -32768 ≤ x.high ∧ x.high ≤ 32767 := hb_6
  have hb_7 : -32768 ≤ x.weight ∧ x.weight ≤ 32767 := hb_7
  refine awp_seq ?_
  refine r1 T0_ok hP hm hN ?_
  refine g1 ?_
  refine awp_seq ?_
  refine awp_seq ?_
  refine r1 T0_ok hP hm hN ?_
  refine g1 ?_
  refine awp_block ?_
  refine awp_seq ?_
  refine r1 T0_ok hP hm hN ?_
  iterate 2 refine g1 ?_
  refine awp_cond rfl (fun hc0 => ?_) (fun hc0 => ?_)
  ·
   refine awp_seq ?_
   refine r1 T0_ok hP hm hN ?_
   iterate 7 refine g1 ?_
   refine awp_ret ?_
   refine fin_mk [] rfl rfl ?_ trivial (by decide)
   show D.val (.agg #[.int .i64 (nums f x).1, .int .i64 (nums f x).2.1, .int .i64 (nums f x).2.2]) = _
   simp only [nums, hc0, if_true, Bool.false_eq_true, if_false]
   rfl
  ·
   refine awp_seq ?_
   refine r1 T0_ok hP hm hN ?_
   iterate 2 refine g1 ?_
   refine awp_cond rfl (fun hc1 => ?_) (fun hc1 => ?_)
   ·
    refine awp_seq ?_
    refine awp_draw T0_ok hP hm hN Pr_mix [] [18, 19] _ rfl (by rfl) ?_
    iterate 18 refine d1 T0_ok ?_
    refine dp1 ?_ (oprel_astep T0_ok (by rfl) rfl (by first | trivial | rfl | exact ⟨rfl, rfl⟩ | exact ⟨rfl, rfl, fun _ => rfl, Nat.le_of_ble_eq_true rfl, .inl rfl⟩ | exact ⟨rfl, rfl, fun h => (nomatch h), Nat.le_of_ble_eq_true rfl, .inl rfl⟩ | exact ⟨rfl, rfl, fun _ => rfl, Nat.le_of_ble_eq_true rfl, .inr rfl⟩ | exact ⟨rfl, rfl, fun h => (nomatch h), Nat.le_of_ble_eq_true rfl, .inr rfl⟩ | omega | exact ⟨rfl, by (repeat (first | exact fm_nil | refine fm_cons ⟨rfl, rfl⟩ ?_)), Nat.le_of_ble_eq_true rfl, Nat.le_of_ble_eq_true rfl⟩ | (refine ⟨?_, ?_, ?_, ?_, ?_, ?_, ?_⟩ <;> first | omega | exact Nat.le_of_ble_eq_true rfl) | exact ⟨rfl, by omega, by (try simp only [List.length_map, List.length_set]); omega⟩ | exact ⟨rfl, by omega, by simp only [Int.toNat_natCast]; omega, by omega, Nat.le_of_ble_eq_true rfl, rfl⟩))
    refine dp1 ?_ (oprel_astep T0_ok (by rfl) rfl (by first | trivial | rfl | exact ⟨rfl, rfl⟩ | exact ⟨rfl, rfl, fun _ => rfl, Nat.le_of_ble_eq_true rfl, .inl rfl⟩ | exact ⟨rfl, rfl, fun h => (nomatch h), Nat.le_of_ble_eq_true rfl, .inl rfl⟩ | exact ⟨rfl, rfl, fun _ => rfl, Nat.le_of_ble_eq_true rfl, .inr rfl⟩ | exact ⟨rfl, rfl, fun h => (nomatch h), Nat.le_of_ble_eq_true rfl, .inr rfl⟩ | omega | exact ⟨rfl, by (repeat (first | exact fm_nil | refine fm_cons ⟨rfl, rfl⟩ ?_)), Nat.le_of_ble_eq_true rfl, Nat.le_of_ble_eq_true rfl⟩ | (refine ⟨?_, ?_, ?_, ?_, ?_, ?_, ?_⟩ <;> first | omega | exact Nat.le_of_ble_eq_true rfl) | exact ⟨rfl, by omega, by (try simp only [List.length_map, List.length_set]); omega⟩ | exact ⟨rfl, by omega, by simp only [Int.toNat_natCast]; omega, by omega, Nat.le_of_ble_eq_true rfl, rfl⟩))
    refine dreg_nil ?_
    refine awp_ret ?_
    refine fin_mk [] rfl rfl ?_ trivial (by decide)
    show D.val (.agg #[.int .i64 (nums f x).1, .int .i64 (nums f x).2.1, .int .i64 (nums f x).2.2]) = _
    simp only [nums, hc0, hc1, if_true, Bool.false_eq_true, if_false]
    rfl
   ·
    refine awp_seq ?_
    refine r1 T0_ok hP hm hN ?_
    iterate 2 refine g1 ?_
    refine awp_cond rfl (fun hc2 => ?_) (fun hc2 => ?_)
    ·
     refine awp_seq ?_
     refine r1 T0_ok hP hm hN ?_
     iterate 7 refine g1 ?_
     refine awp_ret ?_
     refine fin_mk [] rfl rfl ?_ trivial (by decide)
     show D.val (.agg #[.int .i64 (nums f x).1, .int .i64 (nums f x).2.1, .int .i64 (nums f x).2.2]) = _
     simp only [nums, hc0, hc1, hc2, if_true, Bool.false_eq_true, if_false]
     rfl
    ·
     refine awp_seq ?_
     refine r1 T0_ok hP hm hN ?_
     iterate 2 refine g1 ?_
     refine awp_cond rfl (fun hc3 => ?_) (fun hc3 => ?_)
     ·
      refine awp_seq ?_
      refine r1 T0_ok hP hm hN ?_
      iterate 7 refine g1 ?_
      refine awp_ret ?_
      refine fin_mk [] rfl rfl ?_ trivial (by decide)
      show D.val (.agg #[.int .i64 (nums f x).1, .int .i64 (nums f x).2.1, .int .i64 (nums f x).2.2]) = _
      simp only [nums, hc0, hc1, hc2, hc3, if_true, Bool.false_eq_true, if_false]
      rfl
     ·
      refine awp_seq ?_
      refine r1 T0_ok hP hm hN ?_
      iterate 2 refine g1 ?_
      refine awp_cond rfl (fun hc4 => ?_) (fun hc4 => ?_)
      ·
       refine awp_seq ?_
       refine r1 T0_ok hP hm hN ?_
       iterate 7 refine g1 ?_
       refine awp_ret ?_
       refine fin_mk [] rfl rfl ?_ trivial (by decide)
       show D.val (.agg #[.int .i64 (nums f x).1, .int .i64 (nums f x).2.1, .int .i64 (nums f x).2.2]) = _
       simp only [nums, hc0, hc1, hc2, hc3, hc4, if_true, Bool.false_eq_true, if_false]
       rfl
      ·
       refine awp_skip ?_
       refine awp_seq ?_
       refine r1 T0_ok hP hm hN ?_
       iterate 7 refine g1 ?_
       refine awp_ret ?_
       refine fin_mk [] rfl rfl ?_ trivial (by decide)
       show D.val (.agg #[.int .i64 (nums f x).1, .int .i64 (nums f x).2.1, .int .i64 (nums f x).2.2]) = _
       simp only [nums, hc0, hc1, hc2, hc3, hc4, if_true, Bool.false_eq_true, if_false]
       rfl
 ·
  change awp C _ _ ⟨[(0, .rptr sz rows i 1), (1, i8D f)], [], 0⟩
  have hrow : rows[i]? = some (plRow (z, x)) := hrow
  obtain ⟨hb_0, hb_1, hb_2, hb_3, hb_4, hb_5, hb_6, hb_7⟩ := hb
  have hb_0 : -32768 ≤ x.cls ∧ x.cls ≤ 32767 := hb_0
  have hb_1 : 0 ≤ x.m0 ∧ x.m0 ≤ 255 := hb_1
  have hb_2 : 0 ≤ x.m1 ∧ x.m1 ≤ 255 := hb_2
  have hb_3 : 0 ≤ x.m2 ∧ x.m2 ≤ 255 := hb_3
  have hb_4 : -32768 ≤ x.vol ∧ x.vol ≤ 32767 := hb_4
  have hb_5 : -32768 ≤ x.wide ∧ x.wide ≤ 32767 := hb_5
  have hb_6 : -32768 ≤ x.high ∧ x.high ≤ 32767 := hb_6
  have hb_7 : -32768 ≤ x.weight ∧ x.weight ≤ 32767 := hb_7
  refine awp_seq ?_
  refine r1 T0_ok hP hm hN ?_
  refine g1 ?_
  refine awp_seq ?_
  refine awp_seq ?_
  refine r1 T0_ok hP hm hN ?_
  refine g1 ?_
  refine awp_block ?_
  refine awp_seq ?_
  refine r1 T0_ok hP hm hN ?_
  iterate 2 refine g1 ?_
  refine awp_cond rfl (fun hc0 => ?_) (fun hc0 => ?_)
  ·
   refine awp_seq ?_
   refine r1 T0_ok hP hm hN ?_
   iterate 7 refine g1 ?_
   refine awp_ret ?_
   refine fin_mk [] rfl rfl ?_ trivial (by decide)
   show D.val (.agg #[.int .i64 (nums f x).1, .int .i64 (nums f x).2.1, .int .i64 (nums f x).2.2]) = _
   simp only [nums, hc0, if_true, Bool.false_eq_true, if_false]
   rfl
  ·
   refine awp_seq ?_
   refine r1 T0_ok hP hm hN ?_
   iterate 2 refine g1 ?_
   refine awp_cond rfl (fun hc1 => ?_) (fun hc1 => ?_)
   ·
    refine awp_seq ?_
    refine awp_draw T0_ok hP hm hN Pr_mix [] [18, 19] _ rfl (by rfl) ?_
    iterate 18 refine d1 T0_ok ?_
    refine dp1 ?_ (oprel_astep T0_ok (by rfl) rfl (by first | trivial | rfl | exact ⟨rfl, rfl⟩ | exact ⟨rfl, rfl, fun _ => rfl, Nat.le_of_ble_eq_true rfl, .inl rfl⟩ | exact ⟨rfl, rfl, fun h => (nomatch h), Nat.le_of_ble_eq_true rfl, .inl rfl⟩ | exact ⟨rfl, rfl, fun _ => rfl, Nat.le_of_ble_eq_true rfl, .inr rfl⟩ | exact ⟨rfl, rfl, fun h => (nomatch h), Nat.le_of_ble_eq_true rfl, .inr rfl⟩ | omega | exact ⟨rfl, by (repeat (first | exact fm_nil | refine fm_cons ⟨rfl, rfl⟩ ?_)), Nat.le_of_ble_eq_true rfl, Nat.le_of_ble_eq_true rfl⟩ | (refine ⟨?_, ?_, ?_, ?_, ?_, ?_, ?_⟩ <;> first | omega | exact Nat.le_of_ble_eq_true rfl) | exact ⟨rfl, by omega, by (try simp only [List.length_map, List.length_set]); omega⟩ | exact ⟨rfl, by omega, by simp only [Int.toNat_natCast]; omega, by omega, Nat.le_of_ble_eq_true rfl, rfl⟩))
    refine dp1 ?_ (oprel_astep T0_ok (by rfl) rfl (by first | trivial | rfl | exact ⟨rfl, rfl⟩ | exact ⟨rfl, rfl, fun _ => rfl, Nat.le_of_ble_eq_true rfl, .inl rfl⟩ | exact ⟨rfl, rfl, fun h => (nomatch h), Nat.le_of_ble_eq_true rfl, .inl rfl⟩ | exact ⟨rfl, rfl, fun _ => rfl, Nat.le_of_ble_eq_true rfl, .inr rfl⟩ | exact ⟨rfl, rfl, fun h => (nomatch h), Nat.le_of_ble_eq_true rfl, .inr rfl⟩ | omega | exact ⟨rfl, by (repeat (first | exact fm_nil | refine fm_cons ⟨rfl, rfl⟩ ?_)), Nat.le_of_ble_eq_true rfl, Nat.le_of_ble_eq_true rfl⟩ | (refine ⟨?_, ?_, ?_, ?_, ?_, ?_, ?_⟩ <;> first | omega | exact Nat.le_of_ble_eq_true rfl) | exact ⟨rfl, by omega, by (try simp only [List.length_map, List.length_set]); omega⟩ | exact ⟨rfl, by omega, by simp only [Int.toNat_natCast]; omega, by omega, Nat.le_of_ble_eq_true rfl, rfl⟩))
    refine dreg_nil ?_
    refine awp_ret ?_
    refine fin_mk [] rfl rfl ?_ trivial (by decide)
    show D.val (.agg #[.int .i64 (nums f x).1, .int .i64 (nums f x).2.1, .int .i64 (nums f x).2.2]) = _
    simp only [nums, hc0, hc1, if_true, Bool.false_eq_true, if_false]
    rfl
   ·
    refine awp_seq ?_
    refine r1 T0_ok hP hm hN ?_
    iterate 2 refine g1 ?_
    refine awp_cond rfl (fun hc2 => ?_) (fun hc2 => ?_)
    ·
     refine awp_seq ?_
     refine r1 T0_ok hP hm hN ?_
     iterate 7 refine g1 ?_
     refine awp_ret ?_
     refine fin_mk [] rfl rfl ?_ trivial (by decide)
     show D.val (.agg #[.int .i64 (nums f x).1, .int .i64 (nums f x).2.1, .int .i64 (nums f x).2.2]) = _
     simp only [nums, hc0, hc1, hc2, if_true, Bool.false_eq_true, if_false]
     rfl
    ·
     refine awp_seq ?_
     refine r1 T0_ok hP hm hN ?_
     iterate 2 refine g1 ?_
     refine awp_cond rfl (fun hc3 => ?_) (fun hc3 => ?_)
     ·
      refine awp_seq ?_
      refine r1 T0_ok hP hm hN ?_
      iterate 7 refine g1 ?_
      refine awp_ret ?_
      refine fin_mk [] rfl rfl ?_ trivial (by decide)
      show D.val (.agg #[.int .i64 (nums f x).1, .int .i64 (nums f x).2.1, .int .i64 (nums f x).2.2]) = _
      simp only [nums, hc0, hc1, hc2, hc3, if_true, Bool.false_eq_true, if_false]
      rfl
     ·
      refine awp_seq ?_
      refine r1 T0_ok hP hm hN ?_
      iterate 2 refine g1 ?_
      refine awp_cond rfl (fun hc4 => ?_) (fun hc4 => ?_)
      ·
       refine awp_seq ?_
       refine r1 T0_ok hP hm hN ?_
       iterate 7 refine g1 ?_
       refine awp_ret ?_
       refine fin_mk [] rfl rfl ?_ trivial (by decide)
       show D.val (.agg #[.int .i64 (nums f x).1, .int .i64 (nums f x).2.1, .int .i64 (nums f x).2.2]) = _
       simp only [nums, hc0, hc1, hc2, hc3, hc4, if_true, Bool.false_eq_true, if_false]
       rfl
      ·
       refine awp_skip ?_
       refine awp_seq ?_
       refine r1 T0_ok hP hm hN ?_
       iterate 7 refine g1 ?_
       refine awp_ret ?_
       refine fin_mk [] rfl rfl ?_ trivial (by decide)
       show D.val (.agg #[.int .i64 (nums f x).1, .int .i64 (nums f x).2.1, .int .i64 (nums f x).2.2]) = _
       simp only [nums, hc0, hc1, hc2, hc3, hc4, if_true, Bool.false_eq_true, if_false]
       rfl

noncomputable abbrev s_S_l01Compare : Spec (List Int × (Nat × List (List D) × Nat × Int × Bk) × (Nat × List (List D) × Nat × Int × Bk) × Bool) where
  args := fun x => [.sl 1 (ints .i8 x.1), .rptr x.2.1.1 x.2.1.2.1 x.2.1.2.2.1 (offK x.2.2.2), .rptr x.2.2.1.1 x.2.2.1.2.1 x.2.2.1.2.2.1 (offK x.2.2.2)]
  pre := fun x => (∀ n ∈ x.1, n ≠ 0) ∧ x.1.length ≤ 9223372036854775807 ∧ (x.2.1.2.1[x.2.1.2.2.1]? = some (rowK x.2.2.2 x.2.1.2.2.2.1 x.2.1.2.2.2.2) ∧ isBk x.2.1.2.2.2.2) ∧ (x.2.2.1.2.1[x.2.2.1.2.2.1]? = some (rowK x.2.2.2 x.2.2.1.2.2.2.1 x.2.2.1.2.2.2.2) ∧ isBk x.2.2.1.2.2.2.2)
  res := fun x => .val (.int .i64 (cmpBy x.1 x.2.1.2.2.2.2 x.2.2.1.2.2.2.2))

set_option maxRecDepth 20000 in
set_option maxHeartbeats 4000000 in
theorem ok_S_l01Compare : FnOk Pr 66 s_S_l01Compare := by
 refine fn_ok 3 0 T0_ok Go.Proofs.Tryz.func66 rfl (enters_of Go.Proofs.Tryz.func66 rfl rfl) (fun _ => rfl) (fun _ => rfl) (fun _ => rfl) ?_
 rintro ⟨os, ⟨sz, rows, a, z, x⟩, ⟨sz2, rows2, b, z2, y⟩, k⟩ ⟨hv, hl, hA, hB⟩ C hP hN hm hG
 change awp C _ _ ⟨[(0, .sl 1 (ints .i8 os)), (1, .rptr sz rows a (offK k)), (2, .rptr sz2 rows2 b (offK k))], [], 0⟩
 simp only at hv hl hA hB
 refine awp_seq ?_
 refine r1 T0_ok hP hm hN ?_
 refine g1 ?_
 refine awp_seq ?_
 refine awp_seq ?_
 refine r1 T0_ok hP hm hN ?_
 refine g1 ?_
 refine awp_block ?_
 refine awp_loop (fun n st => ∃ i : Nat, i ≤ os.length ∧ (cmpBy os x y = cmpBy (os.drop i) x y) ∧ n = os.length - i ∧ st = ⟨[(7, .val (.int .i64 (i : Nat))), (0, .sl 1 (ints .i8 os)), (1, .rptr sz rows a (offK k)), (2, .rptr sz2 rows2 b (offK k))], [], 0⟩) (os.length) ⟨_, weak_sl (sub_cons rfl (sub_cons rfl (sub_cons rfl (sub_cons rfl (sub_nil))))), 0, by omega, by simp, rfl, rfl⟩ ?_
 rintro n st ⟨i, hii, hall, hni, rfl⟩
 refine awp_seq ?_
 refine awp_seq ?_
 refine r1 T0_ok hP hm hN ?_
 iterate 4 refine g1 ?_
 refine awp_cond rfl (fun hc0 => ?_) (fun hc0 => ?_)
 ·
  have hlti : i < os.length := by simpa using hc0
  have hne := hv _ (getD_mem' (d := 0) hlti)
  have hd := cmpBy_drop hlti x y
  refine awp_skip ?_
  refine awp_seq ?_
  refine awp_block ?_
  refine awp_seq ?_
  refine r1 T0_ok hP hm hN ?_
  iterate 4 refine g1 ?_
  refine gc1 ?_ (call1 ok_S_l01Field _ [])
  refine g1 ?_
  refine awp_seq ?_
  refine r1 T0_ok hP hm hN ?_
  iterate 2 refine g1 ?_
  refine gc1 ?_ (call1 ok_S_l01Numbers (_, _, _, k, z, x, _) [] (hpre := by (try dsimp only); exact hA))
  iterate 2 refine g1 ?_
  refine awp_seq ?_
  refine r1 T0_ok hP hm hN ?_
  iterate 2 refine g1 ?_
  refine gc1 ?_ (call1 ok_S_l01Numbers (_, _, _, k, z2, y, _) [] (hpre := by (try dsimp only); exact hB))
  iterate 2 refine g1 ?_
  refine awp_seq ?_
  refine r1 T0_ok hP hm hN ?_
  refine g1 ?_
  refine awp_block ?_
  refine awp_loop (fun n st => (n = 3 ∧ st = ⟨[(11, .val (.int .i64 0)), (9, .ptr 0 0 0), (10, .ptr 1 0 0), (7, .val (.int .i64 (i : Nat))), (0, .sl 1 (ints .i8 os)), (1, .rptr sz rows a (offK k)), (2, .rptr sz2 rows2 b (offK k))], [(1, ⟨122, 3, true, [[.val (.int .i64 (nums (fldS (os.getD i 0)) y).1), .val (.int .i64 (nums (fldS (os.getD i 0)) y).2.1), .val (.int .i64 (nums (fldS (os.getD i 0)) y).2.2)]]⟩), (0, ⟨122, 3, true, [[.val (.int .i64 (nums (fldS (os.getD i 0)) x).1), .val (.int .i64 (nums (fldS (os.getD i 0)) x).2.1), .val (.int .i64 (nums (fldS (os.getD i 0)) x).2.2)]]⟩)], 2⟩ ∧ True) ∨ (n = 2 ∧ st = ⟨[(11, .val (.int .i64 1)), (9, .ptr 0 0 0), (10, .ptr 1 0 0), (7, .val (.int .i64 (i : Nat))), (0, .sl 1 (ints .i8 os)), (1, .rptr sz rows a (offK k)), (2, .rptr sz2 rows2 b (offK k))], [(1, ⟨122, 3, true, [[.val (.int .i64 (nums (fldS (os.getD i 0)) y).1), .val (.int .i64 (nums (fldS (os.getD i 0)) y).2.1), .val (.int .i64 (nums (fldS (os.getD i 0)) y).2.2)]]⟩), (0, ⟨122, 3, true, [[.val (.int .i64 (nums (fldS (os.getD i 0)) x).1), .val (.int .i64 (nums (fldS (os.getD i 0)) x).2.1), .val (.int .i64 (nums (fldS (os.getD i 0)) x).2.2)]]⟩)], 2⟩ ∧ (nums (fldS (os.getD i 0)) x).1 = (nums (fldS (os.getD i 0)) y).1) ∨ (n = 1 ∧ st = ⟨[(11, .val (.int .i64 2)), (9, .ptr 0 0 0), (10, .ptr 1 0 0), (7, .val (.int .i64 (i : Nat))), (0, .sl 1 (ints .i8 os)), (1, .rptr sz rows a (offK k)), (2, .rptr sz2 rows2 b (offK k))], [(1, ⟨122, 3, true, [[.val (.int .i64 (nums (fldS (os.getD i 0)) y).1), .val (.int .i64 (nums (fldS (os.getD i 0)) y).2.1), .val (.int .i64 (nums (fldS (os.getD i 0)) y).2.2)]]⟩), (0, ⟨122, 3, true, [[.val (.int .i64 (nums (fldS (os.getD i 0)) x).1), .val (.int .i64 (nums (fldS (os.getD i 0)) x).2.1), .val (.int .i64 (nums (fldS (os.getD i 0)) x).2.2)]]⟩)], 2⟩ ∧ (nums (fldS (os.getD i 0)) x).1 = (nums (fldS (os.getD i 0)) y).1 ∧ (nums (fldS (os.getD i 0)) x).2.1 = (nums (fldS (os.getD i 0)) y).2.1) ∨ (n = 0 ∧ st = ⟨[(11, .val (.int .i64 3)), (9, .ptr 0 0 0), (10, .ptr 1 0 0), (7, .val (.int .i64 (i : Nat))), (0, .sl 1 (ints .i8 os)), (1, .rptr sz rows a (offK k)), (2, .rptr sz2 rows2 b (offK k))], [(1, ⟨122, 3, true, [[.val (.int .i64 (nums (fldS (os.getD i 0)) y).1), .val (.int .i64 (nums (fldS (os.getD i 0)) y).2.1), .val (.int .i64 (nums (fldS (os.getD i 0)) y).2.2)]]⟩), (0, ⟨122, 3, true, [[.val (.int .i64 (nums (fldS (os.getD i 0)) x).1), .val (.int .i64 (nums (fldS (os.getD i 0)) x).2.1), .val (.int .i64 (nums (fldS (os.getD i 0)) x).2.2)]]⟩)], 2⟩ ∧ (nums (fldS (os.getD i 0)) x).1 = (nums (fldS (os.getD i 0)) y).1 ∧ (nums (fldS (os.getD i 0)) x).2.1 = (nums (fldS (os.getD i 0)) y).2.1 ∧ (nums (fldS (os.getD i 0)) x).2.2 = (nums (fldS (os.getD i 0)) y).2.2)) 3 ⟨_, weak_sl (sub_cons rfl (sub_cons rfl (sub_cons rfl (sub_cons rfl (sub_cons rfl (sub_cons rfl (sub_cons rfl (sub_nil)))))))), .inl ⟨rfl, rfl, trivial⟩⟩ ?_
  rintro n st (⟨rfl, rfl, hf⟩ | ⟨rfl, rfl, hf⟩ | ⟨rfl, rfl, hf⟩ | ⟨rfl, rfl, hf⟩)
  ·
   refine awp_seq ?_
   refine awp_seq ?_
   refine r1 T0_ok hP hm hN ?_
   iterate 2 refine g1 ?_
   refine awp_cond rfl (fun hc => ?_) (fun hc => absurd hc (by decide))
   refine awp_skip ?_
   refine awp_seq ?_
   refine awp_block ?_
   refine awp_seq ?_
   refine awp_seq ?_
   refine awp_draw T0_ok hP hm hN Pr_mix [0, 1, 2, 3, 4, 5, 6, 7, 8, 9, 10, 11] [] _ rfl (by rfl) ?_
   iterate 7 refine d1 T0_ok ?_
   refine dreg_nil ?_
   refine awp_cond rfl (fun hc1 => ?_) (fun hc1 => ?_)
   ·
    refine awp_exit ?_
    repeat refine thenA_exit ?_
    refine blockA_hit ?_
    refine r1 T0_ok hP hm hN ?_
    iterate 3 refine g1 ?_
    exact ⟨2, _, by omega, weak_sl (sub_cons rfl (sub_cons rfl (sub_cons rfl (sub_cons rfl (sub_cons rfl (sub_cons rfl (sub_cons rfl (sub_nil)))))))), .inr (.inl ⟨rfl, rfl, by simpa using hc1⟩)⟩
   ·
    refine awp_skip ?_
    refine awp_seq ?_
    refine awp_seq ?_
    refine awp_draw T0_ok hP hm hN Pr_mix [0, 1, 2, 3, 4, 5, 6, 7, 8, 9, 10, 11] [] _ rfl (by rfl) ?_
    iterate 13 refine d1 T0_ok ?_
    refine dreg_nil ?_
    refine awp_cond rfl (fun hc2 => ?_) (fun hc2 => ?_)
    ·
     refine awp_seq ?_
     refine r1 T0_ok hP hm hN ?_
     refine g1 ?_
     refine awp_ret ?_
     refine fin_mk [] rfl rfl ?_ trivial (by decide)
     show D.val (.int .i64 (cmpBy os x y)) = D.val (.int .i64 (-1))
     rw [hall, hd, cmp_ret hne (show ¬ (nums (fldS (os.getD i 0)) x).1 = (nums (fldS (os.getD i 0)) y).1 by simpa using hc1) (by rw [cmpF_nums, lex3_0 (by simpa using hc1)]) hc2]
     rfl
    ·
     refine awp_skip ?_
     refine awp_seq ?_
     refine r1 T0_ok hP hm hN ?_
     refine g1 ?_
     refine awp_ret ?_
     refine fin_mk [] rfl rfl ?_ trivial (by decide)
     show D.val (.int .i64 (cmpBy os x y)) = D.val (.int .i64 (1))
     rw [hall, hd, cmp_ret hne (show ¬ (nums (fldS (os.getD i 0)) x).1 = (nums (fldS (os.getD i 0)) y).1 by simpa using hc1) (by rw [cmpF_nums, lex3_0 (by simpa using hc1)]) hc2]
     rfl
  ·
   refine awp_seq ?_
   refine awp_seq ?_
   refine r1 T0_ok hP hm hN ?_
   iterate 2 refine g1 ?_
   refine awp_cond rfl (fun hc => ?_) (fun hc => absurd hc (by decide))
   refine awp_skip ?_
   refine awp_seq ?_
   refine awp_block ?_
   refine awp_seq ?_
   refine awp_seq ?_
   refine awp_draw T0_ok hP hm hN Pr_mix [0, 1, 2, 3, 4, 5, 6, 7, 8, 9, 10, 11] [] _ rfl (by rfl) ?_
   iterate 7 refine d1 T0_ok ?_
   refine dreg_nil ?_
   refine awp_cond rfl (fun hc3 => ?_) (fun hc3 => ?_)
   ·
    refine awp_exit ?_
    repeat refine thenA_exit ?_
    refine blockA_hit ?_
    refine r1 T0_ok hP hm hN ?_
    iterate 3 refine g1 ?_
    exact ⟨1, _, by omega, weak_sl (sub_cons rfl (sub_cons rfl (sub_cons rfl (sub_cons rfl (sub_cons rfl (sub_cons rfl (sub_cons rfl (sub_nil)))))))), .inr (.inr (.inl ⟨rfl, rfl, ⟨hf, by simpa using hc3⟩⟩))⟩
   ·
    refine awp_skip ?_
    refine awp_seq ?_
    refine awp_seq ?_
    refine awp_draw T0_ok hP hm hN Pr_mix [0, 1, 2, 3, 4, 5, 6, 7, 8, 9, 10, 11] [] _ rfl (by rfl) ?_
    iterate 13 refine d1 T0_ok ?_
    refine dreg_nil ?_
    refine awp_cond rfl (fun hc4 => ?_) (fun hc4 => ?_)
    ·
     refine awp_seq ?_
     refine r1 T0_ok hP hm hN ?_
     refine g1 ?_
     refine awp_ret ?_
     refine fin_mk [] rfl rfl ?_ trivial (by decide)
     show D.val (.int .i64 (cmpBy os x y)) = D.val (.int .i64 (-1))
     rw [hall, hd, cmp_ret hne (show ¬ (nums (fldS (os.getD i 0)) x).2.1 = (nums (fldS (os.getD i 0)) y).2.1 by simpa using hc3) (by rw [cmpF_nums, lex3_1 hf (by simpa using hc3)]) hc4]
     rfl
    ·
     refine awp_skip ?_
     refine awp_seq ?_
     refine r1 T0_ok hP hm hN ?_
     refine g1 ?_
     refine awp_ret ?_
     refine fin_mk [] rfl rfl ?_ trivial (by decide)
     show D.val (.int .i64 (cmpBy os x y)) = D.val (.int .i64 (1))
     rw [hall, hd, cmp_ret hne (show ¬ (nums (fldS (os.getD i 0)) x).2.1 = (nums (fldS (os.getD i 0)) y).2.1 by simpa using hc3) (by rw [cmpF_nums, lex3_1 hf (by simpa using hc3)]) hc4]
     rfl
  ·
   refine awp_seq ?_
   refine awp_seq ?_
   refine r1 T0_ok hP hm hN ?_
   iterate 2 refine g1 ?_
   refine awp_cond rfl (fun hc => ?_) (fun hc => absurd hc (by decide))
   refine awp_skip ?_
   refine awp_seq ?_
   refine awp_block ?_
   refine awp_seq ?_
   refine awp_seq ?_
   refine awp_draw T0_ok hP hm hN Pr_mix [0, 1, 2, 3, 4, 5, 6, 7, 8, 9, 10, 11] [] _ rfl (by rfl) ?_
   iterate 7 refine d1 T0_ok ?_
   refine dreg_nil ?_
   refine awp_cond rfl (fun hc5 => ?_) (fun hc5 => ?_)
   ·
    refine awp_exit ?_
    repeat refine thenA_exit ?_
    refine blockA_hit ?_
    refine r1 T0_ok hP hm hN ?_
    iterate 3 refine g1 ?_
    exact ⟨0, _, by omega, weak_sl (sub_cons rfl (sub_cons rfl (sub_cons rfl (sub_cons rfl (sub_cons rfl (sub_cons rfl (sub_cons rfl (sub_nil)))))))), .inr (.inr (.inr (⟨rfl, rfl, ⟨hf.1, hf.2, by simpa using hc5⟩⟩)))⟩
   ·
    refine awp_skip ?_
    refine awp_seq ?_
    refine awp_seq ?_
    refine awp_draw T0_ok hP hm hN Pr_mix [0, 1, 2, 3, 4, 5, 6, 7, 8, 9, 10, 11] [] _ rfl (by rfl) ?_
    iterate 13 refine d1 T0_ok ?_
    refine dreg_nil ?_
    refine awp_cond rfl (fun hc6 => ?_) (fun hc6 => ?_)
    ·
     refine awp_seq ?_
     refine r1 T0_ok hP hm hN ?_
     refine g1 ?_
     refine awp_ret ?_
     refine fin_mk [] rfl rfl ?_ trivial (by decide)
     show D.val (.int .i64 (cmpBy os x y)) = D.val (.int .i64 (-1))
     rw [hall, hd, cmp_ret hne (show ¬ (nums (fldS (os.getD i 0)) x).2.2 = (nums (fldS (os.getD i 0)) y).2.2 by simpa using hc5) (by rw [cmpF_nums, lex3_2 hf.1 hf.2]) hc6]
     rfl
    ·
     refine awp_skip ?_
     refine awp_seq ?_
     refine r1 T0_ok hP hm hN ?_
     refine g1 ?_
     refine awp_ret ?_
     refine fin_mk [] rfl rfl ?_ trivial (by decide)
     show D.val (.int .i64 (cmpBy os x y)) = D.val (.int .i64 (1))
     rw [hall, hd, cmp_ret hne (show ¬ (nums (fldS (os.getD i 0)) x).2.2 = (nums (fldS (os.getD i 0)) y).2.2 by simpa using hc5) (by rw [cmpF_nums, lex3_2 hf.1 hf.2]) hc6]
     rfl
  ·
   refine awp_seq ?_
   refine awp_seq ?_
   refine r1 T0_ok hP hm hN ?_
   iterate 2 refine g1 ?_
   refine awp_cond rfl (fun hc => absurd hc (by decide)) (fun hc => ?_)
   refine awp_exit ?_
   repeat refine thenA_exit ?_
   refine blockA_hit ?_
   refine r1 T0_ok hP hm hN ?_
   iterate 3 refine g1 ?_
   refine ⟨os.length - (i + 1), _, by omega, (by exact Weak.trans (weak_drop 1) (Weak.trans (weak_drop 0) (Weak.trans (weak_nx (nx' := 0) (by omega) (by rfl)) (weak_sl (sub_cons rfl (sub_cons rfl (sub_cons rfl (sub_cons rfl (sub_nil))))))))), i + 1, by omega, by rw [hall, hd, cmp_go0 (by rw [cmpF_nums, lex3_2 hf.1 hf.2.1, hf.2.2, cmpI_self])], rfl, rfl⟩
 ·
  have hgei : ¬ i < os.length := by simpa using hc0
  have heqi : i = os.length := by omega
  refine awp_exit ?_
  repeat refine thenA_exit ?_
  refine blockA_hit ?_
  refine awp_seq ?_
  refine r1 T0_ok hP hm hN ?_
  refine g1 ?_
  refine awp_ret ?_
  refine fin_mk [] rfl rfl ?_ trivial (by decide)
  show D.val (.int .i64 (cmpBy os x y)) = D.val (.int .i64 0)
  rw [hall, List.drop_eq_nil_of_le (by omega)]
  rfl

noncomputable abbrev s_S_l01Usual : Spec ((Nat × List (List D) × Nat × Int × Bk) × (Nat × List (List D) × Nat × Int × Bk) × Bool) where
  args := fun x => [.rptr x.1.1 x.1.2.1 x.1.2.2.1 (offK x.2.2), .rptr x.2.1.1 x.2.1.2.1 x.2.1.2.2.1 (offK x.2.2)]
  pre := fun x => (x.1.2.1[x.1.2.2.1]? = some (rowK x.2.2 x.1.2.2.2.1 x.1.2.2.2.2) ∧ isBk x.1.2.2.2.2) ∧ (x.2.1.2.1[x.2.1.2.2.1]? = some (rowK x.2.2 x.2.1.2.2.2.1 x.2.1.2.2.2.2) ∧ isBk x.2.1.2.2.2.2)
  res := fun x => .val (.int .i64 (cmpU x.1.2.2.2.2 x.2.1.2.2.2.2))

set_option maxRecDepth 20000 in
set_option maxHeartbeats 1000000 in
theorem ok_S_l01Usual : FnOk Pr 50 s_S_l01Usual := by
 refine fn_ok 2 0 T0_ok Go.Proofs.Tryz.func50 rfl (enters_of Go.Proofs.Tryz.func50 rfl rfl) (fun _ => rfl) (fun _ => rfl) (fun _ => rfl) ?_
 rintro ⟨⟨sz, rows, a, z, x⟩, ⟨sz2, rows2, b, z2, y⟩, k⟩ ⟨hA, hB⟩ C hP hN hm hG
 change awp C _ _ ⟨[(0, .rptr sz rows a (offK k)), (1, .rptr sz2 rows2 b (offK k))], [], 0⟩
 simp only at hA hB
 refine awp_seq ?_
 refine r1 T0_ok hP hm hN ?_
 refine g1 ?_
 refine awp_seq ?_
 refine r1 T0_ok hP hm hN ?_
 iterate 3 refine g1 ?_
 refine gc1 ?_ (call1 ok_S_l01Compare (usualO, (_, _, _, z, x), (_, _, _, z2, y), k) [] (hpre := by (try dsimp only); exact ⟨by decide, by simp, hA, hB⟩))
 refine g1 ?_
 refine awp_ret ?_
 refine fin_mk [] rfl rfl ?_ trivial (by decide)
 rfl
end Go.Proofs.YtpdkhlpmiblflaaGreat.Abs

