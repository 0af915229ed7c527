import Derived.Test.YtheoapoddmmahaaGreatW1
set_option linter.unusedVariables false
set_option linter.unusedSimpArgs false
namespace Go.Proofs.YtheoapoddmmahaaGreat.Abs
open Go Go.RowKit
def risesP (xs : List Int) : Prop := ∀ j, j + 1 < xs.length → xs.getD j 0 < xs.getD (j + 1) 0
noncomputable abbrev s_I_rises : Spec (List Int) where
  args := fun xs => [.sl 1 (i64s xs)]
  pre := fun xs => xs.length ≤ 9223372036854775807
  res := fun xs => .val (.bool (ask (risesP xs)))

set_option maxRecDepth 20000 in
set_option maxHeartbeats 1000000 in
theorem ok_I_rises : FnOk Pr 78 s_I_rises := by
 refine fn_ok 1 0 T0_ok Go.Proofs.Tryz.func78 rfl (enters_of Go.Proofs.Tryz.func78 rfl rfl) (fun _ => rfl) (fun _ => rfl) (fun _ => rfl) ?_
 rintro xs hp C hP hN hm hG
 change awp C _ _ ⟨[(0, .sl 1 (i64s xs))], [], 0⟩
 have hp : xs.length ≤ 9223372036854775807 := hp
 have xn1 := @gd_tt
 refine awp_seq ?_
 refine r1 T0_ok hP hm hN ?_
 refine g1 ?_
 refine awp_seq ?_
 refine awp_seq ?_
 refine r1 T0_ok hP hm hN ?_
 refine g1 ?_
 refine awp_block ?_
 refine awp_loop (fun n st => ∃ i : Nat, 1 ≤ i ∧ (∀ j, j + 1 < i → j + 1 < xs.length → xs.getD j 0 < xs.getD (j + 1) 0) ∧ n = xs.length - i ∧ (i ≤ xs.length ∨ i = 1) ∧ st = ⟨[(3, .val (.int .i64 (i : Int))), (0, .sl 1 (i64s xs))], [], 0⟩) (xs.length - 1) ⟨_, weak_sl (sub_cons rfl (sub_cons rfl sub_nil)), 1, by omega, fun j h1 _ => by omega, rfl, .inr rfl, rfl⟩ ?_
 rintro n st ⟨i, hi, hall, hn, hle, rfl⟩
 refine awp_seq ?_
 refine awp_seq ?_
 refine r1 T0_ok hP hm hN ?_
 iterate 4 refine g1 ?_
 refine awp_cond rfl (fun hc0 => ?_) (fun hc0 => ?_)
 ·
  have hlt : i < xs.length := by simpa using hc0
  refine awp_skip ?_
  refine awp_seq ?_
  refine awp_block ?_
  refine awp_seq ?_
  refine awp_draw T0_ok hP hm hN Pr_mix [0, 1, 2, 3, 4, 5, 6, 7, 8, 9, 10, 11] [] _ rfl (by rfl) ?_
  iterate 10 refine d1 T0_ok ?_
  refine dreg_nil ?_
  refine awp_cond rfl (fun hc1 => ?_) (fun hc1 => ?_)
  ·
   refine awp_seq ?_
   refine r1 T0_ok hP hm hN ?_
   refine g1 ?_
   refine awp_ret ?_
   refine fin_mk [] rfl rfl ?_ trivial (by decide)
   have hc2 : xs.getD ((i : Int) - 1).toNat 0 ≥ xs.getD i 0 := by simpa using hc1
   rw [show ((i : Int) - 1).toNat = i - 1 by omega] at hc2
   have hf : ¬ risesP xs := fun h => by
     have := h (i - 1) (by omega)
     rw [show i - 1 + 1 = i by omega] at this
     omega
   show D.val (.bool (ask (risesP xs))) = _
   rw [ask_false hf]
   rfl
  ·
   refine awp_skip ?_
   refine r1 T0_ok hP hm hN ?_
   iterate 3 refine g1 ?_
   have hc2 : ¬ xs.getD ((i : Int) - 1).toNat 0 ≥ xs.getD i 0 := by simpa using hc1
   rw [show ((i : Int) - 1).toNat = i - 1 by omega] at hc2
   refine ⟨xs.length - (i + 1), _, by omega, weak_sl (sub_cons rfl (sub_cons rfl sub_nil)), i + 1, by omega, fun j h1 h2 => ?_, rfl, .inl (by omega), rfl⟩
   by_cases e : j + 1 = i
   · rw [← e] at hc2; simp only [Nat.add_sub_cancel] at hc2; omega
   · exact hall j (by omega) h2
 ·
  have hge : ¬ i < xs.length := by simpa using hc0
  refine awp_exit ?_
  repeat refine thenA_exit ?_
  refine blockA_hit ?_
  refine awp_seq ?_
  refine r1 T0_ok hP hm hN ?_
  refine g1 ?_
  refine awp_ret ?_
  refine fin_mk [] rfl rfl ?_ trivial (by decide)
  have ht : risesP xs := fun j hj => hall j (by omega) hj
  show D.val (.bool (ask (risesP xs))) = _
  rw [ask_true ht]
  rfl


end Go.Proofs.YtheoapoddmmahaaGreat.Abs

