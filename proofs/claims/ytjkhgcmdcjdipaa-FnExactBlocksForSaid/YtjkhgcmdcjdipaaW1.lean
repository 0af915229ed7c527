import Derived.Test.YtjkhgcmdcjdipaaTab
set_option linter.unusedVariables false
set_option linter.unusedSimpArgs false
namespace Go.Proofs.Ytjkhgcmdcjdipaa.Abs
open Go Go.RowKit
def inI (n lo hi : Int) : Bool := decide (lo ≤ n) && decide (n ≤ hi)
def pegsOk (a b c : Int) : Bool := (inI a 50 400 && inI b 1 100) && inI c 1 100
abbrev pegs (x : Int × Int × Int) : D := .val (.agg #[.int .i16 x.1, .int .i16 x.2.1, .int .i16 x.2.2])
abbrev isPegs (x : Int × Int × Int) : Prop := (-32768 ≤ x.1 ∧ x.1 ≤ 32767) ∧ (-32768 ≤ x.2.1 ∧ x.2.1 ≤ 32767) ∧ (-32768 ≤ x.2.2 ∧ x.2.2 ≤ 32767)
theorem inI_iff {n lo hi : Int} : inI n lo hi = true ↔ lo ≤ n ∧ n ≤ hi := by simp [inI]
theorem pegsOk_iff {a b c : Int} : pegsOk a b c = true ↔ (50 ≤ a ∧ a ≤ 400) ∧ (1 ≤ b ∧ b ≤ 100) ∧ (1 ≤ c ∧ c ≤ 100) := by simp [pegsOk, inI_iff]; omega

noncomputable abbrev s_S_l00In : Spec (Int × Int × Int) where
  args := fun x => [.val (.int .i64 x.1), .val (.int .i64 x.2.1), .val (.int .i64 x.2.2)]
  res := fun x => .val (.bool (inI x.1 x.2.1 x.2.2))

set_option maxRecDepth 20000 in
set_option maxHeartbeats 1000000 in
theorem ok_S_l00In : FnOk Pr 55 s_S_l00In := by
 refine fn_ok 3 0 T0_ok Go.Proofs.Try.func55 rfl (enters_of Go.Proofs.Try.func55 rfl rfl) (fun _ => rfl) (fun _ => rfl) (fun _ => rfl) ?_
 rintro ⟨n, lo, hi⟩ - C hP hN hm hG
 change awp C _ _ ⟨[(0, .val (.int .i64 n)), (1, .val (.int .i64 lo)), (2, .val (.int .i64 hi))], [], 0⟩
 refine awp_seq ?_
 refine r1 T0_ok hP hm hN ?_
 refine g1 ?_
 refine awp_seq ?_
 refine r1 T0_ok hP hm hN ?_
 iterate 4 refine g1 ?_
 iterate 3 refine gg1 ?_
 iterate 2 refine g1 ?_
 refine awp_ret ?_
 refine fin_mk [] rfl rfl ?_ trivial (by decide)
 rfl

noncomputable abbrev s_I_within_int16 : Spec (Int × Int × Int) where
  args := fun x => [.val (.int .i16 x.1), .val (.int .i16 x.2.1), .val (.int .i16 x.2.2)]
  res := fun x => .val (.bool (inI x.1 x.2.1 x.2.2))

set_option maxRecDepth 20000 in
set_option maxHeartbeats 1000000 in
theorem ok_I_within_int16 : FnOk Pr 60 s_I_within_int16 := by
 refine fn_ok 3 0 T0_ok Go.Proofs.Try.func60 rfl (enters_of Go.Proofs.Try.func60 rfl rfl) (fun _ => rfl) (fun _ => rfl) (fun _ => rfl) ?_
 rintro ⟨n, lo, hi⟩ - C hP hN hm hG
 change awp C _ _ ⟨[(0, .val (.int .i16 n)), (1, .val (.int .i16 lo)), (2, .val (.int .i16 hi))], [], 0⟩
 refine awp_seq ?_
 refine r1 T0_ok hP hm hN ?_
 refine g1 ?_
 refine awp_seq ?_
 refine r1 T0_ok hP hm hN ?_
 iterate 4 refine g1 ?_
 iterate 3 refine gg1 ?_
 iterate 2 refine g1 ?_
 refine awp_ret ?_
 refine fin_mk [] rfl rfl ?_ trivial (by decide)
 rfl





/-- The least height of a peg that is at least so high. -/
def pegH (a b high : Int) : Int := a + (max (high - a) 0 + b - 1) / b * b
theorem pegH_q {a b high : Int} (hb : 1 ≤ b) : (0 ≤ (max (high - a) 0 + b - 1) / b) ∧ max (high - a) 0 ≤ (max (high - a) 0 + b - 1) / b * b ∧ (max (high - a) 0 + b - 1) / b * b ≤ max (high - a) 0 + b - 1 := by
  have h1 := Int.emod_add_mul_ediv (max (high - a) 0 + b - 1) b
  have h2 := Int.emod_nonneg (max (high - a) 0 + b - 1) (show b ≠ 0 by omega)
  have h3 := Int.emod_lt_of_pos (max (high - a) 0 + b - 1) (show 0 < b by omega)
  have h4 : 0 ≤ (max (high - a) 0 + b - 1) / b := Int.ediv_nonneg (by omega) (by omega)
  have h5 := Int.mul_comm ((max (high - a) 0 + b - 1) / b) b
  refine ⟨h4, ?_, ?_⟩ <;> omega
theorem pegH_bounds {a b high : Int} (hb : 1 ≤ b) : a ≤ pegH a b high ∧ high ≤ pegH a b high ∧ pegH a b high ≤ a + max (high - a) 0 + b - 1 := by
  have h := pegH_q (a := a) (high := high) hb
  have h0 := Int.mul_nonneg h.1 (show 0 ≤ b by omega)
  unfold pegH
  omega
/-- On the way up to it. -/
theorem pegH_step {a b high k : Int} (hb : 1 ≤ b) (hk : 0 ≤ k) (h : a + k * b ≤ pegH a b high) (hlt : a + k * b < high) : a + (k + 1) * b ≤ pegH a b high := by
  have hq := pegH_q (a := a) (high := high) hb
  unfold pegH at h ⊢
  have : k * b < (max (high - a) 0 + b - 1) / b * b := by omega
  have h2 : k < (max (high - a) 0 + b - 1) / b := Int.lt_of_mul_lt_mul_right this (by omega)
  have h3 : (k + 1) * b ≤ (max (high - a) 0 + b - 1) / b * b := Int.mul_le_mul_of_nonneg_right (by omega) (by omega)
  omega
theorem pegH_end {a b high k : Int} (hb : 1 ≤ b) (hk : 0 ≤ k) (h : a + k * b ≤ pegH a b high) (hge : ¬ a + k * b < high) : a + k * b = pegH a b high := by
  have hq := pegH_q (a := a) (high := high) hb
  unfold pegH at h ⊢
  have h0 := Int.mul_nonneg hk (show 0 ≤ b by omega)
  rcases Int.lt_or_le k ((max (high - a) 0 + b - 1) / b) with h2 | h2
  · have h3 : (k + 1) * b ≤ (max (high - a) 0 + b - 1) / b * b := Int.mul_le_mul_of_nonneg_right (by omega) (by omega)
    have h4 : (k + 1) * b = k * b + b := by rw [Int.add_mul]; omega
    omega
  · have h3 : (max (high - a) 0 + b - 1) / b * b ≤ k * b := Int.mul_le_mul_of_nonneg_right h2 (by omega)
    omega
def pegForR (a b c high : Int) : Int × Int := if !pegsOk a b c then (0, 1) else if !inI high 0 1000 then (0, 2) else if pegH a b high > 1000 then (0, 6) else (pegH a b high, 0)



theorem pegpre {a b c high : Int} (h1 : (!pegsOk a b c) = false) (h2 : (!inI high 0 1000) = false) : pegsOk a b c = true ∧ -32768 ≤ high ∧ high ≤ 32767 := by
  simp only [Bool.not_eq_false'] at h1 h2
  rw [inI_iff] at h2
  exact ⟨h1, by omega, by omega⟩




end Go.Proofs.Ytjkhgcmdcjdipaa.Abs
