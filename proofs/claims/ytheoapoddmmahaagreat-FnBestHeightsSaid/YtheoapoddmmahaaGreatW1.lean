import Derived.Test.YtheoapoddmmahaaGreatTab
set_option linter.unusedVariables false
set_option linter.unusedSimpArgs false
namespace Go.Proofs.YtheoapoddmmahaaGreat.Abs
open Go Go.RowKit
def inI (n lo hi : Int) : Bool := decide (lo ≤ n) && decide (n ≤ hi)
def pegsOk (a b c : Int) : Bool := (inI a 50 400 && inI b 1 100) && inI c 1 100
abbrev pegs (x : Int × Int × Int) : D := .val (.agg #[.int .i16 x.1, .int .i16 x.2.1, .int .i16 x.2.2])
abbrev isPegs (x : Int × Int × Int) : Prop := (-32768 ≤ x.1 ∧ x.1 ≤ 32767) ∧ (-32768 ≤ x.2.1 ∧ x.2.1 ≤ 32767) ∧ (-32768 ≤ x.2.2 ∧ x.2.2 ≤ 32767)
theorem inI_iff {n lo hi : Int} : inI n lo hi = true ↔ lo ≤ n ∧ n ≤ hi := by simp [inI]
theorem pegsOk_iff {a b c : Int} : pegsOk a b c = true ↔ (50 ≤ a ∧ a ≤ 400) ∧ (1 ≤ b ∧ b ≤ 100) ∧ (1 ≤ c ∧ c ≤ 100) := by simp [pegsOk, inI_iff]; omega

noncomputable abbrev s_S_l00In : Spec (Int × Int × Int) where
  args := fun x => [.val (.int .i64 x.1), .val (.int .i64 x.2.1), .val (.int .i64 x.2.2)]
  res := fun x => .val (.bool (inI x.1 x.2.1 x.2.2))

set_option maxRecDepth 20000 in
set_option maxHeartbeats 1000000 in
theorem ok_S_l00In : FnOk Pr 33 s_S_l00In := by
 refine fn_ok 3 0 T0_ok Go.Proofs.Tryz.func33 rfl (enters_of Go.Proofs.Tryz.func33 rfl rfl) (fun _ => rfl) (fun _ => rfl) (fun _ => rfl) ?_
 rintro ⟨n, lo, hi⟩ - C hP hN hm hG
 change awp C _ _ ⟨[(0, .val (.int .i64 n)), (1, .val (.int .i64 lo)), (2, .val (.int .i64 hi))], [], 0⟩
 refine awp_seq ?_
 refine r1 T0_ok hP hm hN ?_
 refine g1 ?_
 refine awp_seq ?_
 refine r1 T0_ok hP hm hN ?_
 iterate 4 refine g1 ?_
 iterate 3 refine gg1 ?_
 iterate 2 refine g1 ?_
 refine awp_ret ?_
 refine fin_mk [] rfl rfl ?_ trivial (by decide)
 rfl

noncomputable abbrev s_I_within_int16 : Spec (Int × Int × Int) where
  args := fun x => [.val (.int .i16 x.1), .val (.int .i16 x.2.1), .val (.int .i16 x.2.2)]
  res := fun x => .val (.bool (inI x.1 x.2.1 x.2.2))

set_option maxRecDepth 20000 in
set_option maxHeartbeats 1000000 in
theorem ok_I_within_int16 : FnOk Pr 67 s_I_within_int16 := by
 refine fn_ok 3 0 T0_ok Go.Proofs.Tryz.func67 rfl (enters_of Go.Proofs.Tryz.func67 rfl rfl) (fun _ => rfl) (fun _ => rfl) (fun _ => rfl) ?_
 rintro ⟨n, lo, hi⟩ - C hP hN hm hG
 change awp C _ _ ⟨[(0, .val (.int .i16 n)), (1, .val (.int .i16 lo)), (2, .val (.int .i16 hi))], [], 0⟩
 refine awp_seq ?_
 refine r1 T0_ok hP hm hN ?_
 refine g1 ?_
 refine awp_seq ?_
 refine r1 T0_ok hP hm hN ?_
 iterate 4 refine g1 ?_
 iterate 3 refine gg1 ?_
 iterate 2 refine g1 ?_
 refine awp_ret ?_
 refine fin_mk [] rfl rfl ?_ trivial (by decide)
 rfl

noncomputable abbrev s_S_l04Pegs : Spec (Int × Int × Int) where
  args := fun x => [pegs x]
  pre := isPegs
  res := fun x => .val (.bool (pegsOk x.1 x.2.1 x.2.2))

set_option maxRecDepth 20000 in
set_option maxHeartbeats 1000000 in
theorem ok_S_l04Pegs : FnOk Pr 72 s_S_l04Pegs := by
 refine fn_ok 1 0 T0_ok Go.Proofs.Tryz.func72 rfl (enters_of Go.Proofs.Tryz.func72 rfl rfl) (fun _ => rfl) (fun _ => rfl) (fun _ => rfl) ?_
 rintro ⟨a, b, c⟩ ⟨ha, hb, hc⟩ C hP hN hm hG
 change awp C _ _ ⟨[(0, .val (.agg #[.int .i16 a, .int .i16 b, .int .i16 c]))], [], 0⟩
 simp only at ha hb hc
 refine awp_seq ?_
 refine r1 T0_ok hP hm hN ?_
 iterate 2 refine g1 ?_
 refine awp_seq ?_
 refine r1 T0_ok hP hm hN ?_
 iterate 3 refine g1 ?_
 refine gc1 ?_ (call1 ok_S_l00In (_, _, _) [])
 refine g1 ?_
 iterate 3 refine gg1 ?_
 refine ggc1 ?_ (hs := by intro hb; simp +decide only [hb, gd_tt, gd_ff, beq_self_eq_true, Bool.true_and, beq_true]; exact ⟨rfl, _, call1 ok_S_l00In (_, _, _) [], rfl, rfl, rfl⟩)
 iterate 2 refine g1 ?_
 iterate 3 refine gg1 ?_
 refine ggc1 ?_ (hs := by intro hb; simp +decide only [hb, gd_tt, gd_ff, beq_self_eq_true, Bool.true_and, beq_true]; exact ⟨rfl, _, call1 ok_S_l00In (_, _, _) [], rfl, rfl, rfl⟩)
 iterate 2 refine g1 ?_
 refine awp_ret ?_
 refine fin_mk [] rfl rfl ?_ trivial (by decide)
 rfl


noncomputable abbrev s_I_ValidPegs : Spec (Int × Int × Int) where
  args := fun x => [pegs x]
  pre := isPegs
  res := fun x => .val (.bool (pegsOk x.1 x.2.1 x.2.2))

set_option maxRecDepth 20000 in
set_option maxHeartbeats 1000000 in
theorem ok_I_ValidPegs : FnOk Pr 26 s_I_ValidPegs := by
 refine fn_ok 1 0 T0_ok Go.Proofs.Tryz.func26 rfl (enters_of Go.Proofs.Tryz.func26 rfl rfl) (fun _ => rfl) (fun _ => rfl) (fun _ => rfl) ?_
 rintro ⟨a, b, c⟩ ⟨ha, hb, hc⟩ C hP hN hm hG
 change awp C _ _ ⟨[(0, .val (.agg #[.int .i16 a, .int .i16 b, .int .i16 c]))], [], 0⟩
 simp only at ha hb hc
 refine awp_seq ?_
 refine r1 T0_ok hP hm hN ?_
 iterate 2 refine g1 ?_
 refine awp_seq ?_
 refine r1 T0_ok hP hm hN ?_
 iterate 2 refine g1 ?_
 refine gc1 ?_ (call1 ok_I_within_int16 (_, _, _) [])
 refine g1 ?_
 iterate 2 refine gg1 ?_
 refine ggc1 ?_ (hs := by intro hb; simp +decide only [hb, gd_tt, gd_ff, beq_self_eq_true, Bool.true_and, beq_true]; exact ⟨rfl, _, call1 ok_I_within_int16 (_, _, _) [], rfl, rfl, rfl⟩)
 iterate 2 refine g1 ?_
 iterate 2 refine gg1 ?_
 refine ggc1 ?_ (hs := by intro hb; simp +decide only [hb, gd_tt, gd_ff, beq_self_eq_true, Bool.true_and, beq_true]; exact ⟨rfl, _, call1 ok_I_within_int16 (_, _, _) [], rfl, rfl, rfl⟩)
 iterate 2 refine g1 ?_
 refine awp_ret ?_
 refine fin_mk [] rfl rfl ?_ trivial (by decide)
 rfl


def pegH (a b high : Int) : Int := a + (max (high - a) 0 + b - 1) / b * b
theorem pegH_q {a b high : Int} (hb : 1 ≤ b) : (0 ≤ (max (high - a) 0 + b - 1) / b) ∧ max (high - a) 0 ≤ (max (high - a) 0 + b - 1) / b * b ∧ (max (high - a) 0 + b - 1) / b * b ≤ max (high - a) 0 + b - 1 := by
  have h1 := Int.emod_add_mul_ediv (max (high - a) 0 + b - 1) b
  have h2 := Int.emod_nonneg (max (high - a) 0 + b - 1) (show b ≠ 0 by omega)
  have h3 := Int.emod_lt_of_pos (max (high - a) 0 + b - 1) (show 0 < b by omega)
  have h4 : 0 ≤ (max (high - a) 0 + b - 1) / b := Int.ediv_nonneg (by omega) (by omega)
  have h5 := Int.mul_comm ((max (high - a) 0 + b - 1) / b) b
  refine ⟨h4, ?_, ?_⟩ <;> omega
theorem pegH_bounds {a b high : Int} (hb : 1 ≤ b) : a ≤ pegH a b high ∧ high ≤ pegH a b high ∧ pegH a b high ≤ a + max (high - a) 0 + b - 1 := by
  have h := pegH_q (a := a) (high := high) hb
  have h0 := Int.mul_nonneg h.1 (show 0 ≤ b by omega)
  unfold pegH
  omega
theorem pegH_step {a b high k : Int} (hb : 1 ≤ b) (hk : 0 ≤ k) (h : a + k * b ≤ pegH a b high) (hlt : a + k * b < high) : a + (k + 1) * b ≤ pegH a b high := by
  have hq := pegH_q (a := a) (high := high) hb
  unfold pegH at h ⊢
  have : k * b < (max (high - a) 0 + b - 1) / b * b := by omega
  have h2 : k < (max (high - a) 0 + b - 1) / b := Int.lt_of_mul_lt_mul_right this (by omega)
  have h3 : (k + 1) * b ≤ (max (high - a) 0 + b - 1) / b * b := Int.mul_le_mul_of_nonneg_right (by omega) (by omega)
  omega
theorem pegH_end {a b high k : Int} (hb : 1 ≤ b) (hk : 0 ≤ k) (h : a + k * b ≤ pegH a b high) (hge : ¬ a + k * b < high) : a + k * b = pegH a b high := by
  have hq := pegH_q (a := a) (high := high) hb
  unfold pegH at h ⊢
  have h0 := Int.mul_nonneg hk (show 0 ≤ b by omega)
  rcases Int.lt_or_le k ((max (high - a) 0 + b - 1) / b) with h2 | h2
  · have h3 : (k + 1) * b ≤ (max (high - a) 0 + b - 1) / b * b := Int.mul_le_mul_of_nonneg_right (by omega) (by omega)
    have h4 : (k + 1) * b = k * b + b := by rw [Int.add_mul]; omega
    omega
  · have h3 : (max (high - a) 0 + b - 1) / b * b ≤ k * b := Int.mul_le_mul_of_nonneg_right h2 (by omega)
    omega
def pegForR (a b c high : Int) : Int × Int := if !pegsOk a b c then (0, 1) else if !inI high 0 1000 then (0, 2) else if pegH a b high > 1000 then (0, 6) else (pegH a b high, 0)

noncomputable abbrev s_I_within_int64 : Spec (Int × Int × Int) where
  args := fun x => [.val (.int .i64 x.1), .val (.int .i64 x.2.1), .val (.int .i64 x.2.2)]
  res := fun x => .val (.bool (inI x.1 x.2.1 x.2.2))

set_option maxRecDepth 20000 in
set_option maxHeartbeats 1000000 in
theorem ok_I_within_int64 : FnOk Pr 31 s_I_within_int64 := by
 refine fn_ok 3 0 T0_ok Go.Proofs.Tryz.func31 rfl (enters_of Go.Proofs.Tryz.func31 rfl rfl) (fun _ => rfl) (fun _ => rfl) (fun _ => rfl) ?_
 rintro ⟨n, lo, hi⟩ - C hP hN hm hG
 change awp C _ _ ⟨[(0, .val (.int .i64 n)), (1, .val (.int .i64 lo)), (2, .val (.int .i64 hi))], [], 0⟩
 refine awp_seq ?_
 refine r1 T0_ok hP hm hN ?_
 refine g1 ?_
 refine awp_seq ?_
 refine r1 T0_ok hP hm hN ?_
 iterate 4 refine g1 ?_
 iterate 3 refine gg1 ?_
 iterate 2 refine g1 ?_
 refine awp_ret ?_
 refine fin_mk [] rfl rfl ?_ trivial (by decide)
 rfl

noncomputable abbrev s_S_l04Peg : Spec ((Int × Int × Int) × Int) where
  args := fun x => [pegs x.1, .val (.int .i64 x.2)]
  pre := fun x => pegsOk x.1.1 x.1.2.1 x.1.2.2 = true ∧ -32768 ≤ x.2 ∧ x.2 ≤ 32767
  res := fun x => .val (.int .i64 (pegH x.1.1 x.1.2.1 x.2))

set_option maxRecDepth 20000 in
set_option maxHeartbeats 1000000 in
theorem ok_S_l04Peg : FnOk Pr 40 s_S_l04Peg := by
 refine fn_ok 2 0 T0_ok Go.Proofs.Tryz.func40 rfl (enters_of Go.Proofs.Tryz.func40 rfl rfl) (fun _ => rfl) (fun _ => rfl) (fun _ => rfl) ?_
 rintro ⟨⟨a, b, c⟩, high⟩ ⟨hok, hh⟩ C hP hN hm hG
 change awp C _ _ ⟨[(0, .val (.agg #[.int .i16 a, .int .i16 b, .int .i16 c])), (1, .val (.int .i64 high))], [], 0⟩
 simp only at hok hh
 have hok' := hok
 rw [pegsOk_iff] at hok
 obtain ⟨ha, hb, hc⟩ := hok
 have hB := pegH_bounds (a := a) (high := high) hb.1
 refine awp_seq ?_
 refine r1 T0_ok hP hm hN ?_
 iterate 2 refine g1 ?_
 refine awp_seq ?_
 refine r1 T0_ok hP hm hN ?_
 iterate 4 refine g1 ?_
 refine awp_seq ?_
 refine awp_block ?_
 refine awp_loop (fun n st => ∃ k : Int, 0 ≤ k ∧ a + k * b ≤ pegH a b high ∧ (n : Int) = pegH a b high - (a + k * b) ∧ st = ⟨[(5, .val (.int .i64 (a + k * b))), (2, .ptr 0 0 0), (1, .val (.int .i64 high)), (4, .val (.int .i64 0))], [(0, ⟨26, 3, true, [[.val (.int .i16 a), .val (.int .i16 b), .val (.int .i16 c)]]⟩)], 1⟩) (pegH a b high - a).toNat ⟨_, (by rw [show a + 0 * b = a by omega]; exact weak_sl (sub_cons rfl (sub_cons rfl (sub_cons rfl (sub_cons rfl sub_nil))))), 0, by omega, by omega, by omega, rfl⟩ ?_
 rintro n st ⟨k, hk, hle, hn, rfl⟩
 refine awp_seq ?_
 refine awp_seq ?_
 refine r1 T0_ok hP hm hN ?_
 iterate 3 refine g1 ?_
 refine awp_cond rfl (fun hc0 => ?_) (fun hc0 => ?_)
 ·
  have hlt : a + k * b < high := by simpa using hc0
  have hs := pegH_step hb.1 hk hle hlt
  have e : (k + 1) * b = k * b + b := by rw [Int.add_mul]; omega
  have hkb := Int.mul_nonneg hk (show 0 ≤ b by omega)
  refine awp_skip ?_
  refine awp_block ?_
  refine r1 T0_ok hP hm hN ?_
  iterate 6 refine g1 ?_
  refine ⟨(pegH a b high - (a + (k + 1) * b)).toNat, _, by omega, (by rw [e, ← Int.add_assoc]; exact weak_sl (sub_cons rfl (sub_cons rfl (sub_cons rfl (sub_cons rfl sub_nil))))), k + 1, by omega, hs, by omega, rfl⟩
 ·
  have hge : ¬ a + k * b < high := by simpa using hc0
  have he := pegH_end hb.1 hk hle hge
  refine awp_exit ?_
  repeat refine thenA_exit ?_
  refine blockA_hit ?_
  refine awp_seq ?_
  refine r1 T0_ok hP hm hN ?_
  iterate 2 refine g1 ?_
  refine awp_ret ?_
  refine fin_mk [] rfl rfl ?_ trivial (by decide)
  show D.val (.int .i64 (pegH a b high)) = _
  rw [← he]
  rfl

theorem pegpre {a b c high : Int} (h1 : (!pegsOk a b c) = false) (h2 : (!inI high 0 1000) = false) : pegsOk a b c = true ∧ -32768 ≤ high ∧ high ≤ 32767 := by
  simp only [Bool.not_eq_false'] at h1 h2
  rw [inI_iff] at h2
  exact ⟨h1, by omega, by omega⟩


noncomputable abbrev s_I_Pegs_peg : Spec ((Int × Int × Int) × Int) where
  args := fun x => [pegs x.1, .val (.int .i64 x.2)]
  pre := fun x => pegsOk x.1.1 x.1.2.1 x.1.2.2 = true ∧ -32768 ≤ x.2 ∧ x.2 ≤ 32767
  res := fun x => .val (.int .i64 (pegH x.1.1 x.1.2.1 x.2))

set_option maxRecDepth 20000 in
set_option maxHeartbeats 1000000 in
theorem ok_I_Pegs_peg : FnOk Pr 36 s_I_Pegs_peg := by
 refine fn_ok 2 0 T0_ok Go.Proofs.Tryz.func36 rfl (enters_of Go.Proofs.Tryz.func36 rfl rfl) (fun _ => rfl) (fun _ => rfl) (fun _ => rfl) ?_
 rintro ⟨⟨a, b, c⟩, high⟩ ⟨hok, hh⟩ C hP hN hm hG
 change awp C _ _ ⟨[(0, .val (.agg #[.int .i16 a, .int .i16 b, .int .i16 c])), (1, .val (.int .i64 high))], [], 0⟩
 simp only at hok hh
 have hok' := hok
 rw [pegsOk_iff] at hok
 obtain ⟨ha, hb, hc⟩ := hok
 have hq := pegH_q (a := a) (high := high) hb.1
 have hd : (max (high - a) 0 + b - 1).tdiv b = (max (high - a) 0 + b - 1) / b := Int.tdiv_eq_ediv_of_nonneg (by omega)
 have hu : (max (high - a) 0 + b - 1) / b ≤ max (high - a) 0 + b - 1 := Int.ediv_le_self _ (by omega)
 have xn1 := And.intro hd (@maxIf)
 refine awp_seq ?_
 refine r1 T0_ok hP hm hN ?_
 iterate 2 refine g1 ?_
 refine awp_seq ?_
 refine awp_draw T0_ok hP hm hN Pr_mix [0, 1, 2, 3, 4, 5, 6, 7, 8, 9, 10, 11] [] _ rfl (by rfl) ?_
 iterate 8 refine d1 T0_ok ?_
 refine dreg_nil ?_
 refine awp_seq ?_
 refine r1 T0_ok hP hm hN ?_
 iterate 14 refine g1 ?_
 refine awp_ret ?_
 refine fin_mk [] rfl rfl ?_ trivial (by decide)
 rfl

noncomputable abbrev s_I_PegFor : Spec ((Int × Int × Int) × Int) where
  args := fun x => [pegs x.1, .val (.int .i64 x.2)]
  pre := fun x => isPegs x.1
  res := fun x => .tup [.val (.int .i64 (pegForR x.1.1 x.1.2.1 x.1.2.2 x.2).1), .val (.int .i64 (pegForR x.1.1 x.1.2.1 x.1.2.2 x.2).2)]

set_option maxRecDepth 20000 in
set_option maxHeartbeats 1000000 in
theorem ok_I_PegFor : FnOk Pr 13 s_I_PegFor := by
 refine fn_ok 2 0 T0_ok Go.Proofs.Tryz.func13 rfl (enters_of Go.Proofs.Tryz.func13 rfl rfl) (fun _ => rfl) (fun _ => rfl) (fun _ => rfl) ?_
 rintro ⟨⟨a, b, c⟩, high⟩ hp C hP hN hm hG
 change awp C _ _ ⟨[(0, .val (.agg #[.int .i16 a, .int .i16 b, .int .i16 c])), (1, .val (.int .i64 high))], [], 0⟩
 refine awp_seq ?_
 refine r1 T0_ok hP hm hN ?_
 iterate 3 refine g1 ?_
 refine awp_seq ?_
 refine awp_block ?_
 refine awp_seq ?_
 refine r1 T0_ok hP hm hN ?_
 refine g1 ?_
 refine gc1 ?_ (call1 ok_I_ValidPegs (_, _, _) [] (hpre := by (try dsimp only); first | trivial | exact ⟨ha, hb, hc⟩ | exact hp | assumption))
 iterate 2 refine g1 ?_
 refine awp_cond rfl (fun hc0 => ?_) (fun hc0 => ?_)
 ·
  refine awp_seq ?_
  refine r1 T0_ok hP hm hN ?_
  iterate 2 refine g1 ?_
  refine awp_ret ?_
  refine fin_mk [] rfl rfl ?_ trivial (by decide)
  first | rfl | (simp +decide (disch := omega) only [nrm, lk_nrm, dc_nrm, mk_nrm, mf_nrm, ti_nrm, ls_nrm, mp_nrm, nb_nrm, hset, pick_and, pick_or, ↓reduceIte, Nat.reduceAdd, wI64, wI32, wI16, wI8, wU8, List.length_map, Int.toNat_natCast, xn1, xn2, s_I_PegFor] <;> simp_all [pegForR] <;> first | omega | (rw [if_neg (by omega)]; done) | (rw [if_neg (by omega)]; exact ⟨rfl, rfl⟩))
 ·
  refine awp_seq ?_
  refine r1 T0_ok hP hm hN ?_
  refine g1 ?_
  refine gc1 ?_ (call1 ok_I_within_int64 (_, _, _) [])
  iterate 2 refine g1 ?_
  refine awp_cond rfl (fun hc1 => ?_) (fun hc1 => ?_)
  ·
   refine awp_seq ?_
   refine r1 T0_ok hP hm hN ?_
   iterate 2 refine g1 ?_
   refine awp_ret ?_
   refine fin_mk [] rfl rfl ?_ trivial (by decide)
   first | rfl | (simp +decide (disch := omega) only [nrm, lk_nrm, dc_nrm, mk_nrm, mf_nrm, ti_nrm, ls_nrm, mp_nrm, nb_nrm, hset, pick_and, pick_or, ↓reduceIte, Nat.reduceAdd, wI64, wI32, wI16, wI8, wU8, List.length_map, Int.toNat_natCast, xn1, xn2, s_I_PegFor] <;> simp_all [pegForR] <;> first | omega | (rw [if_neg (by omega)]; done) | (rw [if_neg (by omega)]; exact ⟨rfl, rfl⟩))
  ·
   refine awp_seq ?_
   refine r1 T0_ok hP hm hN ?_
   iterate 2 refine g1 ?_
   refine gc1 ?_ (call1 ok_I_Pegs_peg ((_, _, _), _) [] (hpre := by (try dsimp only); first | trivial | omega | exact pegpre ‹_› ‹_›))
   iterate 2 refine g1 ?_
   refine awp_cond rfl (fun hc2 => ?_) (fun hc2 => ?_)
   ·
    refine awp_seq ?_
    refine r1 T0_ok hP hm hN ?_
    iterate 2 refine g1 ?_
    refine awp_ret ?_
    refine fin_mk [] rfl rfl ?_ trivial (by decide)
    first | rfl | (simp +decide (disch := omega) only [nrm, lk_nrm, dc_nrm, mk_nrm, mf_nrm, ti_nrm, ls_nrm, mp_nrm, nb_nrm, hset, pick_and, pick_or, ↓reduceIte, Nat.reduceAdd, wI64, wI32, wI16, wI8, wU8, List.length_map, Int.toNat_natCast, xn1, xn2, s_I_PegFor] <;> simp_all [pegForR] <;> first | omega | (rw [if_neg (by omega)]; done) | (rw [if_neg (by omega)]; exact ⟨rfl, rfl⟩))
   ·
    refine awp_skip ?_
    refine awp_seq ?_
    refine r1 T0_ok hP hm hN ?_
    iterate 2 refine g1 ?_
    refine gc1 ?_ (call1 ok_I_Pegs_peg ((_, _, _), _) [] (hpre := by (try dsimp only); first | trivial | omega | exact pegpre ‹_› ‹_›))
    iterate 2 refine g1 ?_
    refine awp_ret ?_
    refine fin_mk [] rfl rfl ?_ trivial (by decide)
    first | rfl | (simp +decide (disch := omega) only [nrm, lk_nrm, dc_nrm, mk_nrm, mf_nrm, ti_nrm, ls_nrm, mp_nrm, nb_nrm, hset, pick_and, pick_or, ↓reduceIte, Nat.reduceAdd, wI64, wI32, wI16, wI8, wU8, List.length_map, Int.toNat_natCast, xn1, xn2, s_I_PegFor] <;> simp_all [pegForR] <;> first | omega | (rw [if_neg (by omega)]; done) | (rw [if_neg (by omega)]; exact ⟨rfl, rfl⟩))

end Go.Proofs.YtheoapoddmmahaaGreat.Abs

