import Derived.Test.YtihgdjflacccmaaW4
set_option linter.unusedVariables false
set_option linter.unusedSimpArgs false
namespace Go.Proofs.Ytihgdjflacccmaa.Abs
open Go Go.RowKit
abbrev w64 (n : Int) : Int := IntKind.i64.wrap n
/-- How tall i shelves and their boards are. -/
def tallW (c : Int) (xs ys : List Int) : Nat → Int
  | 0 => c
  | i + 1 => w64 (tallW c xs ys i + w64 (ys.getD i 0 * w64 (xs.getD i 0 + c)))
def countsOk (xs ys : List Int) (most : Int) : Bool := ys.all (fun n => inI n 0 most) && decide ((ys.length : Int) = xs.length)

noncomputable abbrev s_S_l04Counts : Spec (List Int × List Int × Int) where
  args := fun x => [.sl 1 (i64s x.1), .sl 1 (i64s x.2.1), .val (.int .i64 x.2.2)]
  pre := fun x => x.1.length ≤ 9223372036854775807 ∧ x.2.1.length ≤ 9223372036854775807
  res := fun x => .val (.bool (countsOk x.1 x.2.1 x.2.2))

set_option maxRecDepth 20000 in
set_option maxHeartbeats 1000000 in
theorem ok_S_l04Counts : FnOk Pr 40 s_S_l04Counts := by
  refine fn_ok 3 0 T0_ok Go.Proofs.Try.func40 rfl (enters_of Go.Proofs.Try.func40 rfl rfl) (fun _ => rfl) (fun _ => rfl) (fun _ => rfl) ?_
  rintro ⟨xs, ys, most⟩ ⟨hp1, hp2⟩ C hP hN hm hG
  change awp C _ _ ⟨[(0, .sl 1 (i64s xs)), (1, .sl 1 (i64s ys)), (2, .val (.int .i64 most))], [], 0⟩
  simp only at hp1 hp2
  refine awp_seq ?_
  refine r1 T0_ok hP hm hN ?_
  refine g1 ?_
  refine awp_seq ?_
  refine awp_seq ?_
  refine r1 T0_ok hP hm hN ?_
  refine g1 ?_
  refine awp_block ?_
  refine awp_loop (fun n st => ∃ i : Nat, i ≤ ys.length ∧ (∀ j, j < i → inI (ys.getD j 0) 0 most = true) ∧ n = ys.length - i ∧ st = ⟨[(7, .val (.int .i64 (i : Nat))), (0, .sl 1 (i64s xs)), (1, .sl 1 (i64s ys)), (2, .val (.int .i64 most))], [], 0⟩) (ys.length) ⟨_, weak_sl (sub_cons rfl (sub_cons rfl (sub_cons rfl (sub_cons rfl (sub_nil))))), 0, by omega, fun j h => by omega, rfl, rfl⟩ ?_
  rintro n st ⟨i, hii, hall, hni, rfl⟩
  refine awp_seq ?_
  refine awp_seq ?_
  refine r1 T0_ok hP hm hN ?_
  refine g1 ?_
  refine g1 ?_
  refine g1 ?_
  refine g1 ?_
  refine awp_cond rfl (fun hc0 => ?_) (fun hc0 => ?_)
  · skip
    have hlti : i < ys.length := by simpa using hc0
    refine awp_skip ?_
    refine awp_seq ?_
    refine awp_block ?_
    refine awp_seq ?_
    refine r1 T0_ok hP hm hN ?_
    refine g1 ?_
    refine g1 ?_
    refine g1 ?_
    refine g1 ?_
    refine g1 ?_
    refine gc1 ?_ (call1 ok_S_l00In (_, _, _) [])
    refine g1 ?_
    refine awp_cond rfl (fun hc1 => ?_) (fun hc1 => ?_)
    · skip
      refine awp_seq ?_
      refine r1 T0_ok hP hm hN ?_
      refine g1 ?_
      refine awp_ret ?_
      refine fin_mk [] rfl rfl ?_ trivial (by decide)
      show D.val (.bool (countsOk xs ys most)) = D.val (.bool false)
      rw [countsOk, all_false (d := 0) hlti (by simpa using hc1), Bool.false_and]
    · skip
      refine awp_skip ?_
      refine r1 T0_ok hP hm hN ?_
      refine g1 ?_
      refine g1 ?_
      refine g1 ?_
      refine ⟨ys.length - (i + 1), _, by omega, weak_sl (sub_cons rfl (sub_cons rfl (sub_cons rfl (sub_cons rfl (sub_nil))))), i + 1, by omega, upto_step hall (by simpa using hc1), rfl, rfl⟩
  · skip
    have hgei : ¬ i < ys.length := by simpa using hc0
    have heqi : i = ys.length := by omega
    refine awp_exit ?_
    repeat refine thenA_exit ?_
    refine blockA_hit ?_
    refine awp_seq ?_
    refine r1 T0_ok hP hm hN ?_
    refine g1 ?_
    refine g1 ?_
    refine g1 ?_
    refine g1 ?_
    refine g1 ?_
    refine g1 ?_
    refine awp_ret ?_
    refine fin_mk [] rfl rfl ?_ trivial (by decide)
    show D.val (.bool (countsOk xs ys most)) = D.val (.bool (decide ((ys.length : Int) = xs.length)))
    rw [countsOk, all_true (d := 0) (fun j hj => hall j (by omega)), Bool.true_and]

noncomputable abbrev s_S_l04Tall : Spec ((Int × Int × Int) × List Int × List Int) where
  args := fun x => [pegs x.1, .sl 1 (i64s x.2.1), .sl 1 (i64s x.2.2)]
  pre := fun x => isPegs x.1 ∧ x.2.1.length ≤ 9223372036854775807 ∧ x.2.2.length = x.2.1.length
  res := fun x => .val (.int .i64 (tallW x.1.2.2 x.2.1 x.2.2 x.2.1.length))

set_option maxRecDepth 20000 in
set_option maxHeartbeats 1000000 in
theorem ok_S_l04Tall : FnOk Pr 41 s_S_l04Tall := by
  refine fn_ok 3 0 T0_ok Go.Proofs.Try.func41 rfl (enters_of Go.Proofs.Try.func41 rfl rfl) (fun _ => rfl) (fun _ => rfl) (fun _ => rfl) ?_
  rintro ⟨⟨a, b, c⟩, xs, ys⟩ ⟨⟨ha, hb, hc⟩, hl, hly⟩ C hP hN hm hG
  change awp C _ _ ⟨[(0, .val (.agg #[.int .i16 a, .int .i16 b, .int .i16 c])), (1, .sl 1 (i64s xs)), (2, .sl 1 (i64s ys))], [], 0⟩
  simp only at ha hb hc hl hly
  refine awp_seq ?_
  refine r1 T0_ok hP hm hN ?_
  refine g1 ?_
  refine g1 ?_
  refine awp_seq ?_
  refine r1 T0_ok hP hm hN ?_
  refine g1 ?_
  refine g1 ?_
  refine g1 ?_
  refine g1 ?_
  refine awp_seq ?_
  refine awp_seq ?_
  refine r1 T0_ok hP hm hN ?_
  refine g1 ?_
  refine awp_block ?_
  refine awp_loop (fun n st => ∃ i : Nat, i ≤ xs.length ∧ n = xs.length - i ∧ st = ⟨[(7, .val (.int .i64 (tallW c xs ys i))), (8, .val (.int .i64 (i : Nat))), (3, .ptr 0 0 0), (1, .sl 1 (i64s xs)), (2, .sl 1 (i64s ys))], [(0, ⟨26, 3, true, [[.val (.int .i16 a), .val (.int .i16 b), .val (.int .i16 c)]]⟩)], 1⟩) (xs.length) ⟨_, weak_sl (sub_cons rfl (sub_cons rfl (sub_cons rfl (sub_cons rfl (sub_cons rfl (sub_nil)))))), 0, by omega, rfl, rfl⟩ ?_
  rintro n st ⟨i, hii, hni, rfl⟩
  refine awp_seq ?_
  refine awp_seq ?_
  refine r1 T0_ok hP hm hN ?_
  refine g1 ?_
  refine g1 ?_
  refine g1 ?_
  refine g1 ?_
  refine awp_cond rfl (fun hc0 => ?_) (fun hc0 => ?_)
  · skip
    have hlti : i < xs.length := by simpa using hc0
    obtain ⟨t, ht⟩ : ∃ t, t = tallW c xs ys i := ⟨_, rfl⟩
    rw [← ht]
    refine awp_skip ?_
    refine awp_seq ?_
    refine awp_block ?_
    refine awp_draw T0_ok hP hm hN Pr_mix [0, 1, 2, 3, 4, 5, 6, 7, 8, 9, 10, 11] [] _ rfl (by rfl) ?_
    refine d1 T0_ok ?_
    refine d1 T0_ok ?_
    refine d1 T0_ok ?_
    refine d1 T0_ok ?_
    refine d1 T0_ok ?_
    refine d1 T0_ok ?_
    refine d1 T0_ok ?_
    refine d1 T0_ok ?_
    refine d1 T0_ok ?_
    refine d1 T0_ok ?_
    refine d1 T0_ok ?_
    refine d1 T0_ok ?_
    refine d1 T0_ok ?_
    refine d1 T0_ok ?_
    refine d1 T0_ok ?_
    refine d1 T0_ok ?_
    refine dreg_nil ?_
    refine r1 T0_ok hP hm hN ?_
    refine g1 ?_
    refine g1 ?_
    refine g1 ?_
    refine ⟨xs.length - (i + 1), _, by omega, (by rw [tallW, ← ht]; exact weak_sl (sub_cons rfl (sub_cons rfl (sub_cons rfl (sub_cons rfl (sub_cons rfl (sub_nil))))))), i + 1, by omega, rfl, rfl⟩
  · skip
    have hgei : ¬ i < xs.length := by simpa using hc0
    have heqi : i = xs.length := by omega
    subst heqi
    refine awp_exit ?_
    repeat refine thenA_exit ?_
    refine blockA_hit ?_
    refine awp_seq ?_
    refine r1 T0_ok hP hm hN ?_
    refine g1 ?_
    refine g1 ?_
    refine awp_ret ?_
    refine fin_mk [] rfl rfl ?_ trivial (by decide)
    rfl

noncomputable abbrev s_I_Pegs_tall : Spec ((Int × Int × Int) × List Int × List Int) where
  args := fun x => [pegs x.1, .sl 1 (i64s x.2.1), .sl 1 (i64s x.2.2)]
  pre := fun x => isPegs x.1 ∧ x.2.1.length ≤ 9223372036854775807 ∧ x.2.2.length = x.2.1.length
  res := fun x => .val (.int .i64 (tallW x.1.2.2 x.2.1 x.2.2 x.2.1.length))

set_option maxRecDepth 20000 in
set_option maxHeartbeats 1000000 in
theorem ok_I_Pegs_tall : FnOk Pr 43 s_I_Pegs_tall := by
  refine fn_ok 3 0 T0_ok Go.Proofs.Try.func43 rfl (enters_of Go.Proofs.Try.func43 rfl rfl) (fun _ => rfl) (fun _ => rfl) (fun _ => rfl) ?_
  rintro ⟨⟨a, b, c⟩, xs, ys⟩ ⟨⟨ha, hb, hc⟩, hl, hly⟩ C hP hN hm hG
  change awp C _ _ ⟨[(0, .val (.agg #[.int .i16 a, .int .i16 b, .int .i16 c])), (1, .sl 1 (i64s xs)), (2, .sl 1 (i64s ys))], [], 0⟩
  simp only at ha hb hc hl hly
  refine awp_seq ?_
  refine r1 T0_ok hP hm hN ?_
  refine g1 ?_
  refine g1 ?_
  refine awp_seq ?_
  refine r1 T0_ok hP hm hN ?_
  refine g1 ?_
  refine g1 ?_
  refine g1 ?_
  refine g1 ?_
  refine awp_seq ?_
  refine awp_seq ?_
  refine r1 T0_ok hP hm hN ?_
  refine g1 ?_
  refine g1 ?_
  refine g1 ?_
  refine awp_block ?_
  refine awp_loop (fun n st => ∃ i : Nat, i ≤ xs.length ∧ n = xs.length - i ∧ st = ⟨[(7, .val (.int .i64 (tallW c xs ys i))), (15, .val (.int .i64 (i : Nat))), (14, .val (.int .i64 (xs.length : Nat))), (13, .sl 1 (i64s xs)), (3, .ptr 0 0 0), (1, .sl 1 (i64s xs)), (2, .sl 1 (i64s ys))], [(0, ⟨26, 3, true, [[.val (.int .i16 a), .val (.int .i16 b), .val (.int .i16 c)]]⟩)], 1⟩) (xs.length) ⟨_, weak_sl (sub_cons rfl (sub_cons rfl (sub_cons rfl (sub_cons rfl (sub_cons rfl (sub_cons rfl (sub_cons rfl (sub_nil)))))))), 0, by omega, rfl, rfl⟩ ?_
  rintro n st ⟨i, hii, hni, rfl⟩
  refine awp_seq ?_
  refine r1 T0_ok hP hm hN ?_
  refine g1 ?_
  refine awp_seq ?_
  refine awp_cond rfl (fun hc0 => ?_) (fun hc0 => ?_)
  · skip
    have hlti : i < xs.length := by simpa using hc0
    obtain ⟨t, ht⟩ : ∃ t, t = tallW c xs ys i := ⟨_, rfl⟩
    rw [← ht]
    refine awp_skip ?_
    refine awp_seq ?_
    refine awp_block ?_
    refine awp_seq ?_
    refine r1 T0_ok hP hm hN ?_
    refine g1 ?_
    refine g1 ?_
    refine g1 ?_
    refine g1 ?_
    refine g1 ?_
    refine awp_draw T0_ok hP hm hN Pr_mix [0, 1, 2, 3, 4, 5, 6, 7, 8, 9, 10, 11] [] _ rfl (by rfl) ?_
    refine d1 T0_ok ?_
    refine d1 T0_ok ?_
    refine d1 T0_ok ?_
    refine d1 T0_ok ?_
    refine d1 T0_ok ?_
    refine d1 T0_ok ?_
    refine d1 T0_ok ?_
    refine d1 T0_ok ?_
    refine d1 T0_ok ?_
    refine d1 T0_ok ?_
    refine d1 T0_ok ?_
    refine d1 T0_ok ?_
    refine d1 T0_ok ?_
    refine dreg_nil ?_
    refine r1 T0_ok hP hm hN ?_
    refine g1 ?_
    refine g1 ?_
    refine ⟨xs.length - (i + 1), _, by omega, (by rw [tallW, ← ht]; exact weak_sl (sub_cons rfl (sub_cons rfl (sub_cons rfl (sub_cons rfl (sub_cons rfl (sub_cons rfl (sub_cons rfl (sub_nil))))))))), i + 1, by omega, rfl, rfl⟩
  · skip
    have hgei : ¬ i < xs.length := by simpa using hc0
    have heqi : i = xs.length := by omega
    subst heqi
    refine awp_exit ?_
    repeat refine thenA_exit ?_
    refine blockA_hit ?_
    refine awp_seq ?_
    refine r1 T0_ok hP hm hN ?_
    refine g1 ?_
    refine g1 ?_
    refine awp_ret ?_
    refine fin_mk [] rfl rfl ?_ trivial (by decide)
    rfl

def tallOfR (a b c : Int) (xs ys : List Int) (ok : Bool) : Int × Int := if !ok then (0, 1) else if !countsOk xs ys 60 then (0, 2) else (tallW c xs ys xs.length, 0)
theorem countsOk_len {xs ys : List Int} {most : Int} (h : (!countsOk xs ys most) = false) : ys.length = xs.length := by
  simp only [Bool.not_eq_false', countsOk, Bool.and_eq_true, decide_eq_true_eq] at h; omega

noncomputable abbrev s_S_TallOf : Spec ((Int × Int × Int) × List Int × List Int) where
  args := fun x => [pegs x.1, .sl 1 (i64s x.2.1), .sl 1 (i64s x.2.2)]
  pre := fun x => isPegs x.1 ∧ x.2.1.length ≤ 9223372036854775807 ∧ x.2.2.length ≤ 9223372036854775807
  res := fun x => .tup [.val (.int .i64 (tallOfR x.1.1 x.1.2.1 x.1.2.2 x.2.1 x.2.2 (okH x.1.1 x.1.2.1 x.1.2.2 x.2.1)).1), .val (.int .i64 (tallOfR x.1.1 x.1.2.1 x.1.2.2 x.2.1 x.2.2 (okH x.1.1 x.1.2.1 x.1.2.2 x.2.1)).2)]

set_option maxRecDepth 20000 in
set_option maxHeartbeats 1000000 in
theorem ok_S_TallOf : FnOk Pr 18 s_S_TallOf := by
  refine fn_ok 3 0 T0_ok Go.Proofs.Try.func18 rfl (enters_of Go.Proofs.Try.func18 rfl rfl) (fun _ => rfl) (fun _ => rfl) (fun _ => rfl) ?_
  rintro ⟨⟨a, b, c⟩, xs, ys⟩ ⟨hp, hl, hly⟩ C hP hN hm hG
  change awp C _ _ ⟨[(0, .val (.agg #[.int .i16 a, .int .i16 b, .int .i16 c])), (1, .sl 1 (i64s xs)), (2, .sl 1 (i64s ys))], [], 0⟩
  simp only at hl hly
  refine awp_seq ?_
  refine r1 T0_ok hP hm hN ?_
  refine g1 ?_
  refine g1 ?_
  refine g1 ?_
  refine awp_seq ?_
  refine awp_seq ?_
  refine r1 T0_ok hP hm hN ?_
  refine g1 ?_
  refine g1 ?_
  refine gc1 ?_ (call1 ok_S_l04Ok ((_, _, _), _) [] (hargs := (by exact args_cons arga_val (args_cons arga_slsl (args_nil)))) (hpre := by (try dsimp only); exact ⟨hp, hl⟩))
  refine g1 ?_
  refine awp_cond rfl (fun hc0 => ?_) (fun hc0 => ?_)
  · skip
    refine awp_seq ?_
    refine r1 T0_ok hP hm hN ?_
    refine g1 ?_
    refine g1 ?_
    refine awp_ret ?_
    refine fin_mk [] rfl rfl ?_ trivial (by decide)
    show D.tup [_, _] = _
    simp only [tallOfR, *, if_true, Bool.false_eq_true, if_false]
    rfl
  · skip
    refine awp_skip ?_
    refine awp_seq ?_
    refine awp_seq ?_
    refine r1 T0_ok hP hm hN ?_
    refine g1 ?_
    refine g1 ?_
    refine gc1 ?_ (call1 ok_S_l04Counts (_, _, _) [] (hpre := by (try dsimp only); exact ⟨hl, hly⟩))
    refine g1 ?_
    refine awp_cond rfl (fun hc1 => ?_) (fun hc1 => ?_)
    · skip
      refine awp_seq ?_
      refine r1 T0_ok hP hm hN ?_
      refine g1 ?_
      refine g1 ?_
      refine awp_ret ?_
      refine fin_mk [] rfl rfl ?_ trivial (by decide)
      show D.tup [_, _] = _
      simp only [tallOfR, *, if_true, Bool.false_eq_true, if_false]
      rfl
    · skip
      refine awp_skip ?_
      refine awp_seq ?_
      refine r1 T0_ok hP hm hN ?_
      refine g1 ?_
      refine g1 ?_
      refine g1 ?_
      refine gc1 ?_ (call1 ok_S_l04Tall ((_, _, _), _, _) [] (hpre := by (try dsimp only); exact ⟨hp, hl, countsOk_len hc1⟩))
      refine g1 ?_
      refine g1 ?_
      refine awp_ret ?_
      refine fin_mk [] rfl rfl ?_ trivial (by decide)
      show D.tup [_, _] = _
      simp only [tallOfR, *, if_true, Bool.false_eq_true, if_false]
      rfl

noncomputable abbrev s_I_areShelves_1 : Spec (Int × Int) where
  args := fun x => [i64D x.1, .rptr 1 [[.val (.int .i64 x.2)]] 0 0]
  res := fun x => .val (.bool (inI x.1 0 x.2))

set_option maxRecDepth 20000 in
set_option maxHeartbeats 1000000 in
theorem ok_I_areShelves_1 : FnOk Pr 54 s_I_areShelves_1 := by
  refine fn_ok 2 0 T0_ok Go.Proofs.Try.func54 rfl (enters_of Go.Proofs.Try.func54 rfl rfl) (fun _ => rfl) (fun _ => rfl) (fun _ => rfl) ?_
  rintro ⟨n, most⟩ - C hP hN hm hG
  change awp C _ _ ⟨[(0, i64D n), (1, .rptr 1 [[.val (.int .i64 most)]] 0 0)], [], 0⟩
  refine awp_seq ?_
  refine r1 T0_ok hP hm hN ?_
  refine g1 ?_
  refine awp_seq ?_
  refine r1 T0_ok hP hm hN ?_
  refine g1 ?_
  refine g1 ?_
  refine gc1 ?_ (call1 ok_I_within_int64 (_, _, _) [])
  refine g1 ?_
  refine awp_ret ?_
  refine fin_mk [] rfl rfl ?_ trivial (by decide)
  rfl

theorem says_shelves (dom : Int → Prop) (most : Int) : Says i64D dom (fun n => inI n 0 most) (.clo (.func 54) [.rptr 1 [[.val (.int .i64 most)]] 0 0]) :=
  ⟨54, [], [.rptr 1 [[.val (.int .i64 most)]] 0 0], (s_I_areShelves_1).comap (fun n => (n, most)), rfl, rfl, rfl, ok_I_areShelves_1.comap _, fun _ => rfl, fun _ _ => trivial, fun _ => rfl, fun _ => rfl, fun _ => rfl, fun _ => rfl⟩

noncomputable abbrev s_I_areShelves : Spec (List Int × List Int × Int) where
  args := fun x => [.sl 1 (i64s x.1), .sl 1 (i64s x.2.1), .val (.int .i64 x.2.2)]
  pre := fun x => x.1.length ≤ 9223372036854775807 ∧ x.2.1.length ≤ 9223372036854775807
  res := fun x => .val (.bool (countsOk x.1 x.2.1 x.2.2))

set_option maxRecDepth 20000 in
set_option maxHeartbeats 1000000 in
theorem ok_I_areShelves : FnOk Pr 42 s_I_areShelves := by
  refine fn_ok 3 0 T0_ok Go.Proofs.Try.func42 rfl (enters_of Go.Proofs.Try.func42 rfl rfl) (fun _ => rfl) (fun _ => rfl) (fun _ => rfl) ?_
  rintro ⟨xs, ys, most⟩ ⟨hp1, hp2⟩ C hP hN hm hG
  change awp C _ _ ⟨[(0, .sl 1 (i64s xs)), (1, .sl 1 (i64s ys)), (2, .val (.int .i64 most))], [], 0⟩
  simp only at hp1 hp2
  refine awp_seq ?_
  refine r1 T0_ok hP hm hN ?_
  refine g1 ?_
  refine g1 ?_
  refine awp_seq ?_
  refine r1 T0_ok hP hm hN ?_
  refine g1 ?_
  refine g1 ?_
  refine g1 ?_
  refine g1 ?_
  refine g1 ?_
  refine g1 ?_
  refine gg1 ?_
  refine gg1 ?_
  refine ggc1 ?_ (hs := by intro hb; simp +decide only [hb, gd_tt, gd_ff, beq_self_eq_true, Bool.true_and, beq_true]; exact ⟨rfl, _, call1 ok_I_areAll_int64 (_, _, fun n => inI n 0 most) [] (hpre := by (try dsimp only); exact ⟨hp2, rfl, says_shelves _ most⟩), rfl, rfl, rfl⟩)
  refine g1 ?_
  refine g1 ?_
  refine awp_ret ?_
  refine fin_mk [] rfl rfl ?_ trivial (by decide)
  show D.val (.bool (countsOk xs ys most)) = _
  rw [countsOk, Bool.and_comm]
  rfl

noncomputable abbrev s_I_TallOf : Spec ((Int × Int × Int) × List Int × List Int) where
  args := fun x => [pegs x.1, .sl 1 (i64s x.2.1), .sl 1 (i64s x.2.2)]
  pre := fun x => isPegs x.1 ∧ x.2.1.length ≤ 9223372036854775807 ∧ x.2.2.length ≤ 9223372036854775807
  res := fun x => .tup [.val (.int .i64 (tallOfR x.1.1 x.1.2.1 x.1.2.2 x.2.1 x.2.2 (validH x.1.1 x.1.2.1 x.1.2.2 x.2.1)).1), .val (.int .i64 (tallOfR x.1.1 x.1.2.1 x.1.2.2 x.2.1 x.2.2 (validH x.1.1 x.1.2.1 x.1.2.2 x.2.1)).2)]

set_option maxRecDepth 20000 in
set_option maxHeartbeats 1000000 in
theorem ok_I_TallOf : FnOk Pr 19 s_I_TallOf := by
  refine fn_ok 3 0 T0_ok Go.Proofs.Try.func19 rfl (enters_of Go.Proofs.Try.func19 rfl rfl) (fun _ => rfl) (fun _ => rfl) (fun _ => rfl) ?_
  rintro ⟨⟨a, b, c⟩, xs, ys⟩ ⟨hp, hl, hly⟩ C hP hN hm hG
  change awp C _ _ ⟨[(0, .val (.agg #[.int .i16 a, .int .i16 b, .int .i16 c])), (1, .sl 1 (i64s xs)), (2, .sl 1 (i64s ys))], [], 0⟩
  simp only at hl hly
  refine awp_seq ?_
  refine r1 T0_ok hP hm hN ?_
  refine g1 ?_
  refine g1 ?_
  refine g1 ?_
  refine awp_seq ?_
  refine awp_block ?_
  refine awp_seq ?_
  refine r1 T0_ok hP hm hN ?_
  refine g1 ?_
  refine g1 ?_
  refine gc1 ?_ (call1 ok_I_ValidHeights ((_, _, _), _) [] (hpre := by (try dsimp only); exact ⟨hp, hl⟩))
  refine g1 ?_
  refine g1 ?_
  refine awp_cond rfl (fun hc0 => ?_) (fun hc0 => ?_)
  · skip
    refine awp_seq ?_
    refine r1 T0_ok hP hm hN ?_
    refine g1 ?_
    refine g1 ?_
    refine awp_ret ?_
    refine fin_mk [] rfl rfl ?_ trivial (by decide)
    show D.tup [_, _] = _
    simp only [tallOfR, *, if_true, Bool.false_eq_true, if_false]
    rfl
  · skip
    refine awp_seq ?_
    refine r1 T0_ok hP hm hN ?_
    refine g1 ?_
    refine g1 ?_
    refine gc1 ?_ (call1 ok_I_areShelves (_, _, _) [] (hpre := by (try dsimp only); exact ⟨hl, hly⟩))
    refine g1 ?_
    refine g1 ?_
    refine awp_cond rfl (fun hc1 => ?_) (fun hc1 => ?_)
    · skip
      refine awp_seq ?_
      refine r1 T0_ok hP hm hN ?_
      refine g1 ?_
      refine g1 ?_
      refine awp_ret ?_
      refine fin_mk [] rfl rfl ?_ trivial (by decide)
      show D.tup [_, _] = _
      simp only [tallOfR, *, if_true, Bool.false_eq_true, if_false]
      rfl
    · skip
      refine awp_skip ?_
      refine awp_seq ?_
      refine r1 T0_ok hP hm hN ?_
      refine g1 ?_
      refine g1 ?_
      refine g1 ?_
      refine gc1 ?_ (call1 ok_I_Pegs_tall ((_, _, _), _, _) [] (hpre := by (try dsimp only); exact ⟨hp, hl, countsOk_len hc1⟩))
      refine g1 ?_
      refine g1 ?_
      refine awp_ret ?_
      refine fin_mk [] rfl rfl ?_ trivial (by decide)
      show D.tup [_, _] = _
      simp only [tallOfR, *, if_true, Bool.false_eq_true, if_false]
      rfl

noncomputable abbrev s_L_FnExactTallOf : Spec ((Int × Int × Int) × List Int × List Int) where
  args := fun x => [pegs x.1, .sl 1 (i64s x.2.1), .sl 1 (i64s x.2.2)]
  pre := fun x => isPegs x.1 ∧ (I64s x.2.1 ∧ x.2.1.length ≤ 9223372036854775807) ∧ (I64s x.2.2 ∧ x.2.2.length ≤ 9223372036854775807)
  res := fun x => .val (.bool true)

set_option maxRecDepth 20000 in
set_option maxHeartbeats 1000000 in
theorem ok_L_FnExactTallOf : FnOk Pr 6 s_L_FnExactTallOf := by
  refine fn_ok 3 0 T0_ok Go.Proofs.Try.func6 rfl (enters_of Go.Proofs.Try.func6 rfl rfl) (fun _ => rfl) (fun _ => rfl) (fun _ => rfl) ?_
  rintro ⟨⟨a, b, c⟩, xs, ys⟩ ⟨hp, ⟨_, hl⟩, ⟨_, hly⟩⟩ C hP hN hm hG
  change awp C _ _ ⟨[(0, .val (.agg #[.int .i16 a, .int .i16 b, .int .i16 c])), (1, .sl 1 (i64s xs)), (2, .sl 1 (i64s ys))], [], 0⟩
  simp only at hl hly
  refine awp_seq ?_
  refine r1 T0_ok hP hm hN ?_
  refine g1 ?_
  refine g1 ?_
  refine awp_seq ?_
  refine awp_seq ?_
  refine r1 T0_ok hP hm hN ?_
  refine g1 ?_
  refine g1 ?_
  refine g1 ?_
  refine awp_cond rfl (fun hc0 => ?_) (fun hc0 => ?_)
  · skip
    refine awp_seq ?_
    refine r1 T0_ok hP hm hN ?_
    refine g1 ?_
    refine awp_ret ?_
    refine fin_mk [] rfl rfl ?_ trivial (by decide)
    rfl
  · skip
    have hl2 : xs.length ≤ 1048576 := by simp at hc0; omega
    refine awp_skip ?_
    refine awp_seq ?_
    refine awp_seq ?_
    refine r1 T0_ok hP hm hN ?_
    refine g1 ?_
    refine g1 ?_
    refine g1 ?_
    refine awp_cond rfl (fun hc1 => ?_) (fun hc1 => ?_)
    · skip
      refine awp_seq ?_
      refine r1 T0_ok hP hm hN ?_
      refine g1 ?_
      refine awp_ret ?_
      refine fin_mk [] rfl rfl ?_ trivial (by decide)
      rfl
    · skip
      have hly2 : ys.length ≤ 1048576 := by simp at hc1; omega
      refine awp_skip ?_
      refine awp_seq ?_
      refine r1 T0_ok hP hm hN ?_
      refine g1 ?_
      refine gc1 ?_ (call1 ok_L_toPegs (_, _, _) [] (hpre := by (try dsimp only); first | trivial | exact ⟨ha, hb, hc⟩ | exact hp | assumption))
      refine g1 ?_
      refine gc1 ?_ (call1 ok_L_toInt64S _ [] (hpre := by (try dsimp only); assumption))
      refine g1 ?_
      refine gc1 ?_ (call1 ok_L_toInt64S _ [] (hpre := by (try dsimp only); assumption))
      refine gc1 ?_ (call1 ok_S_TallOf ((_, _, _), _, _) [] (hpre := by (try dsimp only); exact ⟨hp, hl, hly⟩))
      refine g1 ?_
      refine g1 ?_
      refine g1 ?_
      refine g1 ?_
      refine g1 ?_
      refine awp_seq ?_
      refine r1 T0_ok hP hm hN ?_
      refine g1 ?_
      refine gc1 ?_ (call1 ok_L_toInt64S _ [] (hpre := by (try dsimp only); assumption))
      refine g1 ?_
      refine awp_seq ?_
      refine r1 T0_ok hP hm hN ?_
      refine g1 ?_
      refine gc1 ?_ (call1 ok_L_toInt64S _ [] (hpre := by (try dsimp only); assumption))
      refine g1 ?_
      refine awp_seq ?_
      refine r1 T0_ok hP hm hN ?_
      refine g1 ?_
      refine gc1 ?_ (call1 ok_L_toPegs (_, _, _) [] (hpre := by (try dsimp only); first | trivial | exact ⟨ha, hb, hc⟩ | exact hp | assumption))
      refine g1 ?_
      refine g1 ?_
      refine gc1 ?_ (call1 ok_I_TallOf ((_, _, _), _, _) [] (hpre := by (try dsimp only); exact ⟨hp, hl, hly⟩))
      refine g1 ?_
      refine g1 ?_
      refine g1 ?_
      refine g1 ?_
      refine g1 ?_
      refine awp_seq ?_
      refine awp_seq ?_
      refine r1 T0_ok hP hm hN ?_
      refine g1 ?_
      refine g1 ?_
      refine g1 ?_
      refine g1 ?_
      refine gg1 ?_
      refine gg1 ?_
      refine gg1 ?_
      refine g1 ?_
      refine awp_cond rfl (fun hc2 => ?_) (fun hc2 => ?_)
      · skip
        refine awp_seq ?_
        refine r1 T0_ok hP hm hN ?_
        refine g1 ?_
        refine awp_ret ?_
        refine fin_mk [] rfl rfl ?_ trivial (by decide)
        exfalso; rw [okH_validH] at hc2; simp at hc2
      · skip
        refine awp_skip ?_
        refine awp_seq ?_
        refine awp_seq ?_
        refine r1 T0_ok hP hm hN ?_
        refine g1 ?_
        refine g1 ?_
        refine gc1 ?_ (call1 ok_L_toInt64S _ [] (hpre := by (try dsimp only); assumption))
        refine gc1 ?_ (call1 ok_L_eqInt64S (_, _) [])
        refine g1 ?_
        refine awp_cond rfl (fun hc3 => ?_) (fun hc3 => ?_)
        · skip
          refine awp_seq ?_
          refine r1 T0_ok hP hm hN ?_
          refine g1 ?_
          refine awp_ret ?_
          refine fin_mk [] rfl rfl ?_ trivial (by decide)
          exfalso; simp at hc3
        · skip
          refine awp_skip ?_
          refine awp_seq ?_
          refine awp_seq ?_
          refine r1 T0_ok hP hm hN ?_
          refine g1 ?_
          refine g1 ?_
          refine gc1 ?_ (call1 ok_L_toInt64S _ [] (hpre := by (try dsimp only); assumption))
          refine gc1 ?_ (call1 ok_L_eqInt64S (_, _) [])
          refine g1 ?_
          refine awp_cond rfl (fun hc4 => ?_) (fun hc4 => ?_)
          · skip
            refine awp_seq ?_
            refine r1 T0_ok hP hm hN ?_
            refine g1 ?_
            refine awp_ret ?_
            refine fin_mk [] rfl rfl ?_ trivial (by decide)
            exfalso; simp at hc4
          · skip
            refine awp_skip ?_
            refine awp_seq ?_
            refine r1 T0_ok hP hm hN ?_
            refine g1 ?_
            refine awp_ret ?_
            refine fin_mk [] rfl rfl ?_ trivial (by decide)
            rfl
end Go.Proofs.Ytihgdjflacccmaa.Abs
