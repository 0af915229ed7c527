import Derived.Test.YtheoapoddmmahaaGreatE4
set_option linter.unusedVariables false
set_option linter.unusedSimpArgs false
namespace Go.Proofs.YtheoapoddmmahaaGreat.Abs
open Go Go.RowKit
def okB2 (b : Bk) : Prop := (1 ≤ b.wide ∧ b.wide ≤ 100) ∧ 50 ≤ b.high ∧ b.high ≤ 400
theorem validBs_b2 {xs : List Bk} (h : validBs xs = true) : (∀ b ∈ xs, okB2 b) ∧ xs.length ≤ 60 := by
  simp only [validBs, Bool.and_eq_true, decide_eq_true_eq] at h
  refine ⟨fun b hb => ?_, by omega⟩
  have := List.all_eq_true.1 h.2 b hb
  simp only [validB, Bool.and_eq_true] at this
  obtain ⟨⟨⟨⟨h1, h2⟩, h3⟩, h4⟩, h5⟩ := this
  exact ⟨inI_iff.1 h3, inI_iff.1 h4⟩
def wOn (bs : List Bk) (low high : Int) : Nat → Int
  | 0 => 0
  | i + 1 => if (decide ((bs.getD i bk0).high > low) && decide ((bs.getD i bk0).high ≤ high)) = true then wOn bs low high i + (bs.getD i bk0).wide * (high - (bs.getD i bk0).high) else wOn bs low high i
theorem wOn_b {bs : List Bk} {low high : Int} (h : ∀ b ∈ bs, okB2 b) (hh : high ≤ 1000) : ∀ i, i ≤ bs.length → 0 ≤ wOn bs low high i ∧ wOn bs low high i ≤ i * 100000
  | 0, _ => by simp [wOn]
  | i + 1, hi => by
    have ih := wOn_b (low := low) h hh i (by omega)
    obtain ⟨h1, h2⟩ := h _ (getD_mem' (d := bk0) (show i < bs.length by omega))
    simp only [wOn, Bool.and_eq_true, decide_eq_true_eq]
    split
    · rename_i hc
      generalize (bs.getD i bk0).wide = w at *
      generalize (bs.getD i bk0).high = g at *
      have e1 : 0 ≤ w * (high - g) := Int.mul_nonneg (by omega) (by omega)
      have e2 : w * (high - g) ≤ 100 * (high - g) := Int.mul_le_mul_of_nonneg_right (by omega) (by omega)
      omega
    · omega

noncomputable abbrev s_S_l04Part : Spec (List Bk × Int × Int) where
  args := fun x => [.sl 8 (bks x.1), .val (.int .i64 x.2.1), .val (.int .i64 x.2.2)]
  pre := fun x => ((∀ b ∈ x.1, isBk b) ∧ (∀ b ∈ x.1, okB2 b) ∧ x.1.length ≤ 60) ∧ (0 ≤ x.2.2 ∧ x.2.2 ≤ 1000)
  res := fun x => .val (.int .i64 (wOn x.1 x.2.1 x.2.2 x.1.length))

set_option maxRecDepth 20000 in
set_option maxHeartbeats 1000000 in
theorem ok_S_l04Part : FnOk Pr 76 s_S_l04Part := by
 refine fn_ok 3 0 T0_ok Go.Proofs.Tryz.func76 rfl (enters_of Go.Proofs.Tryz.func76 rfl rfl) (fun _ => rfl) (fun _ => rfl) (fun _ => rfl) ?_
 rintro ⟨bs, low, high⟩ ⟨⟨hv, ho, hl⟩, hh2⟩ C hP hN hm hG
 change awp C _ _ ⟨[(0, .sl 8 (bks bs)), (1, .val (.int .i64 low)), (2, .val (.int .i64 high))], [], 0⟩
 simp only at hv ho hl hh2
 refine awp_seq ?_
 refine r1 T0_ok hP hm hN ?_
 refine g1 ?_
 refine awp_seq ?_
 refine r1 T0_ok hP hm hN ?_
 refine g1 ?_
 refine awp_seq ?_
 refine awp_seq ?_
 refine r1 T0_ok hP hm hN ?_
 refine g1 ?_
 refine awp_block ?_
 refine awp_loop (fun n st => ∃ i : Nat, i ≤ bs.length ∧ n = bs.length - i ∧ st = ⟨[(8, .val (.int .i64 (i : Nat))), (7, .val (.int .i64 (wOn bs low high i))), (0, .sl 8 (bks bs)), (1, .val (.int .i64 low)), (2, .val (.int .i64 high))], [], 0⟩) (bs.length) ⟨_, weak_sl (sub_cons rfl (sub_cons rfl (sub_cons rfl (sub_cons rfl (sub_cons rfl (sub_nil)))))), 0, by omega, rfl, rfl⟩ ?_
 rintro n st ⟨i, hii, hni, rfl⟩
 refine awp_seq ?_
 refine awp_seq ?_
 refine r1 T0_ok hP hm hN ?_
 iterate 4 refine g1 ?_
 refine awp_cond rfl (fun hc0 => ?_) (fun hc0 => ?_)
 ·
  have hlti : i < bs.length := by simpa using hc0
  have hgx := bks_get bs i hlti
  obtain ⟨hw1, hw2⟩ := ho _ (getD_mem' (d := bk0) hlti)
  have hwb := wOn_b (low := low) ho hh2.2 i hii
  have hm1 : 0 ≤ 60 * 100000 := by omega
  refine awp_skip ?_
  refine awp_seq ?_
  refine awp_block ?_
  refine awp_seq ?_
  refine r1 T0_ok hP hm hN ?_
  iterate 7 refine g1 ?_
  refine awp_seq ?_
  refine r1 T0_ok hP hm hN ?_
  iterate 4 refine g1 ?_
  iterate 3 refine gg1 ?_
  refine g1 ?_
  refine awp_cond rfl (fun hc1 => ?_) (fun hc1 => ?_)
  ·
   have e1 : (bs.getD i bk0).wide * (high - (bs.getD i bk0).high) ≤ 100 * (high - (bs.getD i bk0).high) ∧ 0 ≤ (bs.getD i bk0).wide * (high - (bs.getD i bk0).high) := by
     have hc2 := hc1
     simp only [Bool.and_eq_true, decide_eq_true_eq] at hc2
     exact ⟨Int.mul_le_mul_of_nonneg_right (by omega) (by omega), Int.mul_nonneg (by omega) (by omega)⟩
   refine r1 T0_ok hP hm hN ?_
   iterate 13 refine g1 ?_
   refine r1 T0_ok hP hm hN ?_
   iterate 3 refine g1 ?_
   first
     | exact ⟨bs.length - (i + 1), _, by omega, (by rw [wOn, if_pos hc1]; exact weak_sl (sub_cons rfl (sub_cons rfl (sub_cons rfl (sub_cons rfl (sub_cons rfl (sub_nil))))))), i + 1, by omega, rfl, rfl⟩
     | exact ⟨bs.length - (i + 1), _, by omega, (by rw [wOn, if_neg (by rw [hc1]; simp)]; exact weak_sl (sub_cons rfl (sub_cons rfl (sub_cons rfl (sub_cons rfl (sub_cons rfl (sub_nil))))))), i + 1, by omega, rfl, rfl⟩
  ·
   refine awp_skip ?_
   refine r1 T0_ok hP hm hN ?_
   iterate 3 refine g1 ?_
   first
     | exact ⟨bs.length - (i + 1), _, by omega, (by rw [wOn, if_pos hc1]; exact weak_sl (sub_cons rfl (sub_cons rfl (sub_cons rfl (sub_cons rfl (sub_cons rfl (sub_nil))))))), i + 1, by omega, rfl, rfl⟩
     | exact ⟨bs.length - (i + 1), _, by omega, (by rw [wOn, if_neg (by rw [hc1]; simp)]; exact weak_sl (sub_cons rfl (sub_cons rfl (sub_cons rfl (sub_cons rfl (sub_cons rfl (sub_nil))))))), i + 1, by omega, rfl, rfl⟩
 ·
  have hgei : ¬ i < bs.length := by simpa using hc0
  have heqi : i = bs.length := by omega
  subst heqi
  refine awp_exit ?_
  repeat refine thenA_exit ?_
  refine blockA_hit ?_
  refine awp_seq ?_
  refine r1 T0_ok hP hm hN ?_
  iterate 2 refine g1 ?_
  refine awp_ret ?_
  refine fin_mk [] rfl rfl ?_ trivial (by decide)
  rfl

noncomputable abbrev s_I_wasteOn : Spec (List Bk × Int × Int) where
  args := fun x => [.sl 8 (bks x.1), .val (.int .i64 x.2.1), .val (.int .i64 x.2.2)]
  pre := fun x => ((∀ b ∈ x.1, isBk b) ∧ (∀ b ∈ x.1, okB2 b) ∧ x.1.length ≤ 60) ∧ (0 ≤ x.2.2 ∧ x.2.2 ≤ 1000)
  res := fun x => .val (.int .i64 (wOn x.1 x.2.1 x.2.2 x.1.length))

set_option maxRecDepth 20000 in
set_option maxHeartbeats 1000000 in
theorem ok_I_wasteOn : FnOk Pr 75 s_I_wasteOn := by
 refine fn_ok 3 0 T0_ok Go.Proofs.Tryz.func75 rfl (enters_of Go.Proofs.Tryz.func75 rfl rfl) (fun _ => rfl) (fun _ => rfl) (fun _ => rfl) ?_
 rintro ⟨bs, low, high⟩ ⟨⟨hv, ho, hl⟩, hh2⟩ C hP hN hm hG
 change awp C _ _ ⟨[(0, .sl 8 (bks bs)), (1, .val (.int .i64 low)), (2, .val (.int .i64 high))], [], 0⟩
 simp only at hv ho hl hh2
 refine awp_seq ?_
 refine r1 T0_ok hP hm hN ?_
 refine g1 ?_
 refine awp_seq ?_
 refine r1 T0_ok hP hm hN ?_
 refine g1 ?_
 refine awp_seq ?_
 refine awp_seq ?_
 refine r1 T0_ok hP hm hN ?_
 iterate 3 refine g1 ?_
 refine awp_block ?_
 refine awp_loop (fun n st => ∃ i : Nat, i ≤ bs.length ∧ n = bs.length - i ∧ st = ⟨[(13, .val (.int .i64 (i : Nat))), (12, .val (.int .i64 (bs.length : Nat))), (11, .sl 8 (bks bs)), (7, .val (.int .i64 (wOn bs low high i))), (1, .val (.int .i64 low)), (2, .val (.int .i64 high))], [], 0⟩) (bs.length) ⟨_, weak_sl (sub_cons rfl (sub_cons rfl (sub_cons rfl (sub_cons rfl (sub_cons rfl (sub_cons rfl (sub_nil))))))), 0, by omega, rfl, rfl⟩ ?_
 rintro n st ⟨i, hii, hni, rfl⟩
 refine awp_seq ?_
 refine r1 T0_ok hP hm hN ?_
 refine g1 ?_
 refine awp_seq ?_
 refine awp_cond rfl (fun hc0 => ?_) (fun hc0 => ?_)
 ·
  have hlti : i < bs.length := by simpa using hc0
  have hgx := bks_get bs i hlti
  obtain ⟨hw1, hw2⟩ := ho _ (getD_mem' (d := bk0) hlti)
  have hwb := wOn_b (low := low) ho hh2.2 i hii
  have hm1 : 0 ≤ 60 * 100000 := by omega
  refine awp_skip ?_
  refine awp_seq ?_
  refine awp_block ?_
  refine awp_seq ?_
  refine r1 T0_ok hP hm hN ?_
  iterate 4 refine g1 ?_
  refine awp_seq ?_
  refine r1 T0_ok hP hm hN ?_
  iterate 4 refine g1 ?_
  refine awp_seq ?_
  refine r1 T0_ok hP hm hN ?_
  iterate 4 refine g1 ?_
  iterate 3 refine gg1 ?_
  refine g1 ?_
  refine awp_cond rfl (fun hc1 => ?_) (fun hc1 => ?_)
  ·
   have e1 : (bs.getD i bk0).wide * (high - (bs.getD i bk0).high) ≤ 100 * (high - (bs.getD i bk0).high) ∧ 0 ≤ (bs.getD i bk0).wide * (high - (bs.getD i bk0).high) := by
     have hc2 := hc1
     simp only [Bool.and_eq_true, decide_eq_true_eq] at hc2
     exact ⟨Int.mul_le_mul_of_nonneg_right (by omega) (by omega), Int.mul_nonneg (by omega) (by omega)⟩
   refine r1 T0_ok hP hm hN ?_
   iterate 10 refine g1 ?_
   refine r1 T0_ok hP hm hN ?_
   iterate 2 refine g1 ?_
   first
     | exact ⟨bs.length - (i + 1), _, by omega, (by rw [wOn, if_pos hc1]; exact Weak.trans (weak_drop 0) (Weak.trans (weak_nx (nx' := 0) (by omega) (by rfl)) (weak_sl (sub_cons rfl (sub_cons rfl (sub_cons rfl (sub_cons rfl (sub_cons rfl (sub_cons rfl (sub_nil)))))))))), i + 1, by omega, rfl, rfl⟩
     | exact ⟨bs.length - (i + 1), _, by omega, (by rw [wOn, if_neg (by rw [hc1]; simp)]; exact Weak.trans (weak_drop 0) (Weak.trans (weak_nx (nx' := 0) (by omega) (by rfl)) (weak_sl (sub_cons rfl (sub_cons rfl (sub_cons rfl (sub_cons rfl (sub_cons rfl (sub_cons rfl (sub_nil)))))))))), i + 1, by omega, rfl, rfl⟩
  ·
   refine awp_skip ?_
   refine r1 T0_ok hP hm hN ?_
   iterate 2 refine g1 ?_
   first
     | exact ⟨bs.length - (i + 1), _, by omega, (by rw [wOn, if_pos hc1]; exact Weak.trans (weak_drop 0) (Weak.trans (weak_nx (nx' := 0) (by omega) (by rfl)) (weak_sl (sub_cons rfl (sub_cons rfl (sub_cons rfl (sub_cons rfl (sub_cons rfl (sub_cons rfl (sub_nil)))))))))), i + 1, by omega, rfl, rfl⟩
     | exact ⟨bs.length - (i + 1), _, by omega, (by rw [wOn, if_neg (by rw [hc1]; simp)]; exact Weak.trans (weak_drop 0) (Weak.trans (weak_nx (nx' := 0) (by omega) (by rfl)) (weak_sl (sub_cons rfl (sub_cons rfl (sub_cons rfl (sub_cons rfl (sub_cons rfl (sub_cons rfl (sub_nil)))))))))), i + 1, by omega, rfl, rfl⟩
 ·
  have hgei : ¬ i < bs.length := by simpa using hc0
  have heqi : i = bs.length := by omega
  subst heqi
  refine awp_exit ?_
  repeat refine thenA_exit ?_
  refine blockA_hit ?_
  refine awp_seq ?_
  refine r1 T0_ok hP hm hN ?_
  iterate 2 refine g1 ?_
  refine awp_ret ?_
  refine fin_mk [] rfl rfl ?_ trivial (by decide)
  rfl
end Go.Proofs.YtheoapoddmmahaaGreat.Abs

