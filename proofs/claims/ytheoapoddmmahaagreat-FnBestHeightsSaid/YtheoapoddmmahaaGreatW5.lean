import Derived.Test.YtheoapoddmmahaaGreatW8
set_option linter.unusedVariables false
set_option linter.unusedSimpArgs false
namespace Go.Proofs.YtheoapoddmmahaaGreat.Abs
open Go Go.RowKit
abbrev w64 (n : Int) : Int := IntKind.i64.wrap n
def tallW (c : Int) (xs ys : List Int) : Nat → Int
  | 0 => c
  | i + 1 => w64 (tallW c xs ys i + w64 (ys.getD i 0 * w64 (xs.getD i 0 + c)))
def countsOk (xs ys : List Int) (most : Int) : Bool := ys.all (fun n => inI n 0 most) && decide ((ys.length : Int) = xs.length)


noncomputable abbrev s_S_l04Tall : Spec ((Int × Int × Int) × List Int × List Int) where
  args := fun x => [pegs x.1, .sl 1 (i64s x.2.1), .sl 1 (i64s x.2.2)]
  pre := fun x => isPegs x.1 ∧ x.2.1.length ≤ 9223372036854775807 ∧ x.2.2.length = x.2.1.length
  res := fun x => .val (.int .i64 (tallW x.1.2.2 x.2.1 x.2.2 x.2.1.length))

set_option maxRecDepth 20000 in
set_option maxHeartbeats 1000000 in
theorem ok_S_l04Tall : FnOk Pr 58 s_S_l04Tall := by
 refine fn_ok 3 0 T0_ok Go.Proofs.Tryz.func58 rfl (enters_of Go.Proofs.Tryz.func58 rfl rfl) (fun _ => rfl) (fun _ => rfl) (fun _ => rfl) ?_
 rintro ⟨⟨a, b, c⟩, xs, ys⟩ ⟨⟨ha, hb, hc⟩, hl, hly⟩ C hP hN hm hG
 change awp C _ _ ⟨[(0, .val (.agg #[.int .i16 a, .int .i16 b, .int .i16 c])), (1, .sl 1 (i64s xs)), (2, .sl 1 (i64s ys))], [], 0⟩
 simp only at ha hb hc hl hly
 refine awp_seq ?_
 refine r1 T0_ok hP hm hN ?_
 iterate 2 refine g1 ?_
 refine awp_seq ?_
 refine r1 T0_ok hP hm hN ?_
 iterate 4 refine g1 ?_
 refine awp_seq ?_
 refine awp_seq ?_
 refine r1 T0_ok hP hm hN ?_
 refine g1 ?_
 refine awp_block ?_
 refine awp_loop (fun n st => ∃ i : Nat, i ≤ xs.length ∧ n = xs.length - i ∧ st = ⟨[(7, .val (.int .i64 (tallW c xs ys i))), (8, .val (.int .i64 (i : Nat))), (3, .ptr 0 0 0), (1, .sl 1 (i64s xs)), (2, .sl 1 (i64s ys))], [(0, ⟨26, 3, true, [[.val (.int .i16 a), .val (.int .i16 b), .val (.int .i16 c)]]⟩)], 1⟩) (xs.length) ⟨_, weak_sl (sub_cons rfl (sub_cons rfl (sub_cons rfl (sub_cons rfl (sub_cons rfl (sub_nil)))))), 0, by omega, rfl, rfl⟩ ?_
 rintro n st ⟨i, hii, hni, rfl⟩
 refine awp_seq ?_
 refine awp_seq ?_
 refine r1 T0_ok hP hm hN ?_
 iterate 4 refine g1 ?_
 refine awp_cond rfl (fun hc0 => ?_) (fun hc0 => ?_)
 ·
  have hlti : i < xs.length := by simpa using hc0
  obtain ⟨t, ht⟩ : ∃ t, t = tallW c xs ys i := ⟨_, rfl⟩
  rw [← ht]
  refine awp_skip ?_
  refine awp_seq ?_
  refine awp_block ?_
  refine awp_draw T0_ok hP hm hN Pr_mix [0, 1, 2, 3, 4, 5, 6, 7, 8, 9, 10, 11] [] _ rfl (by rfl) ?_
  iterate 16 refine d1 T0_ok ?_
  refine dreg_nil ?_
  refine r1 T0_ok hP hm hN ?_
  iterate 3 refine g1 ?_
  refine ⟨xs.length - (i + 1), _, by omega, (by rw [tallW, ← ht]; exact weak_sl (sub_cons rfl (sub_cons rfl (sub_cons rfl (sub_cons rfl (sub_cons rfl (sub_nil))))))), i + 1, by omega, rfl, rfl⟩
 ·
  have hgei : ¬ i < xs.length := by simpa using hc0
  have heqi : i = xs.length := by omega
  subst heqi
  refine awp_exit ?_
  repeat refine thenA_exit ?_
  refine blockA_hit ?_
  refine awp_seq ?_
  refine r1 T0_ok hP hm hN ?_
  iterate 2 refine g1 ?_
  refine awp_ret ?_
  refine fin_mk [] rfl rfl ?_ trivial (by decide)
  rfl

noncomputable abbrev s_I_Pegs_tall : Spec ((Int × Int × Int) × List Int × List Int) where
  args := fun x => [pegs x.1, .sl 1 (i64s x.2.1), .sl 1 (i64s x.2.2)]
  pre := fun x => isPegs x.1 ∧ x.2.1.length ≤ 9223372036854775807 ∧ x.2.2.length = x.2.1.length
  res := fun x => .val (.int .i64 (tallW x.1.2.2 x.2.1 x.2.2 x.2.1.length))

set_option maxRecDepth 20000 in
set_option maxHeartbeats 1000000 in
theorem ok_I_Pegs_tall : FnOk Pr 53 s_I_Pegs_tall := by
 refine fn_ok 3 0 T0_ok Go.Proofs.Tryz.func53 rfl (enters_of Go.Proofs.Tryz.func53 rfl rfl) (fun _ => rfl) (fun _ => rfl) (fun _ => rfl) ?_
 rintro ⟨⟨a, b, c⟩, xs, ys⟩ ⟨⟨ha, hb, hc⟩, hl, hly⟩ C hP hN hm hG
 change awp C _ _ ⟨[(0, .val (.agg #[.int .i16 a, .int .i16 b, .int .i16 c])), (1, .sl 1 (i64s xs)), (2, .sl 1 (i64s ys))], [], 0⟩
 simp only at ha hb hc hl hly
 refine awp_seq ?_
 refine r1 T0_ok hP hm hN ?_
 iterate 2 refine g1 ?_
 refine awp_seq ?_
 refine r1 T0_ok hP hm hN ?_
 iterate 4 refine g1 ?_
 refine awp_seq ?_
 refine awp_seq ?_
 refine r1 T0_ok hP hm hN ?_
 iterate 3 refine g1 ?_
 refine awp_block ?_
 refine awp_loop (fun n st => ∃ i : Nat, i ≤ xs.length ∧ n = xs.length - i ∧ st = ⟨[(7, .val (.int .i64 (tallW c xs ys i))), (15, .val (.int .i64 (i : Nat))), (14, .val (.int .i64 (xs.length : Nat))), (13, .sl 1 (i64s xs)), (3, .ptr 0 0 0), (1, .sl 1 (i64s xs)), (2, .sl 1 (i64s ys))], [(0, ⟨26, 3, true, [[.val (.int .i16 a), .val (.int .i16 b), .val (.int .i16 c)]]⟩)], 1⟩) (xs.length) ⟨_, weak_sl (sub_cons rfl (sub_cons rfl (sub_cons rfl (sub_cons rfl (sub_cons rfl (sub_cons rfl (sub_cons rfl (sub_nil)))))))), 0, by omega, rfl, rfl⟩ ?_
 rintro n st ⟨i, hii, hni, rfl⟩
 refine awp_seq ?_
 refine r1 T0_ok hP hm hN ?_
 refine g1 ?_
 refine awp_seq ?_
 refine awp_cond rfl (fun hc0 => ?_) (fun hc0 => ?_)
 ·
  have hlti : i < xs.length := by simpa using hc0
  obtain ⟨t, ht⟩ : ∃ t, t = tallW c xs ys i := ⟨_, rfl⟩
  rw [← ht]
  refine awp_skip ?_
  refine awp_seq ?_
  refine awp_block ?_
  refine awp_seq ?_
  refine r1 T0_ok hP hm hN ?_
  iterate 5 refine g1 ?_
  refine awp_draw T0_ok hP hm hN Pr_mix [0, 1, 2, 3, 4, 5, 6, 7, 8, 9, 10, 11] [] _ rfl (by rfl) ?_
  iterate 13 refine d1 T0_ok ?_
  refine dreg_nil ?_
  refine r1 T0_ok hP hm hN ?_
  iterate 2 refine g1 ?_
  refine ⟨xs.length - (i + 1), _, by omega, (by rw [tallW, ← ht]; exact weak_sl (sub_cons rfl (sub_cons rfl (sub_cons rfl (sub_cons rfl (sub_cons rfl (sub_cons rfl (sub_cons rfl (sub_nil))))))))), i + 1, by omega, rfl, rfl⟩
 ·
  have hgei : ¬ i < xs.length := by simpa using hc0
  have heqi : i = xs.length := by omega
  subst heqi
  refine awp_exit ?_
  repeat refine thenA_exit ?_
  refine blockA_hit ?_
  refine awp_seq ?_
  refine r1 T0_ok hP hm hN ?_
  iterate 2 refine g1 ?_
  refine awp_ret ?_
  refine fin_mk [] rfl rfl ?_ trivial (by decide)
  rfl
end Go.Proofs.YtheoapoddmmahaaGreat.Abs

