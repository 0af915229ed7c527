import Derived.Test.YtclgddkepbpalaaW4
set_option linter.unusedVariables false
set_option linter.unusedSimpArgs false
namespace Go.Proofs.Ytclgddkepbpalaa.Abs
open Go Go.RowKit
abbrev w64 (n : Int) : Int := IntKind.i64.wrap n
/-- How tall i shelves and their boards are. -/
def tallW (c : Int) (xs ys : List Int) : Nat → Int
  | 0 => c
  | i + 1 => w64 (tallW c xs ys i + w64 (ys.getD i 0 * w64 (xs.getD i 0 + c)))
def countsOk (xs ys : List Int) (most : Int) : Bool := ys.all (fun n => inI n 0 most) && decide ((ys.length : Int) = xs.length)

noncomputable abbrev s_S_l04Counts : Spec (List Int × List Int × Int) where
  args := fun x => [.sl 1 (i64s x.1), .sl 1 (i64s x.2.1), .val (.int .i64 x.2.2)]
  pre := fun x => x.1.length ≤ 9223372036854775807 ∧ x.2.1.length ≤ 9223372036854775807
  res := fun x => .val (.bool (countsOk x.1 x.2.1 x.2.2))

set_option maxRecDepth 20000 in
set_option maxHeartbeats 1000000 in
theorem ok_S_l04Counts : FnOk Pr 35 s_S_l04Counts := by
  refine fn_ok 3 0 T0_ok Go.Proofs.Try.func35 rfl (enters_of Go.Proofs.Try.func35 rfl rfl) (fun _ => rfl) (fun _ => rfl) (fun _ => rfl) ?_
  rintro ⟨xs, ys, most⟩ ⟨hp1, hp2⟩ C hP hN hm hG
  change awp C _ _ ⟨[(0, .sl 1 (i64s xs)), (1, .sl 1 (i64s ys)), (2, .val (.int .i64 most))], [], 0⟩
  simp only at hp1 hp2
  refine awp_seq ?_
  refine r1 T0_ok hP hm hN ?_
  refine g1 ?_
  refine awp_seq ?_
  refine awp_seq ?_
  refine r1 T0_ok hP hm hN ?_
  refine g1 ?_
  refine awp_block ?_
  refine awp_loop (fun n st => ∃ i : Nat, i ≤ ys.length ∧ (∀ j, j < i → inI (ys.getD j 0) 0 most = true) ∧ n = ys.length - i ∧ st = ⟨[(7, .val (.int .i64 (i : Nat))), (0, .sl 1 (i64s xs)), (1, .sl 1 (i64s ys)), (2, .val (.int .i64 most))], [], 0⟩) (ys.length) ⟨_, weak_sl (sub_cons rfl (sub_cons rfl (sub_cons rfl (sub_cons rfl (sub_nil))))), 0, by omega, fun j h => by omega, rfl, rfl⟩ ?_
  rintro n st ⟨i, hii, hall, hni, rfl⟩
  refine awp_seq ?_
  refine awp_seq ?_
  refine r1 T0_ok hP hm hN ?_
  refine g1 ?_
  refine g1 ?_
  refine g1 ?_
  refine g1 ?_
  refine awp_cond rfl (fun hc0 => ?_) (fun hc0 => ?_)
  · skip
    have hlti : i < ys.length := by simpa using hc0
    refine awp_skip ?_
    refine awp_seq ?_
    refine awp_block ?_
    refine awp_seq ?_
    refine r1 T0_ok hP hm hN ?_
    refine g1 ?_
    refine g1 ?_
    refine g1 ?_
    refine g1 ?_
    refine g1 ?_
    refine gc1 ?_ (call1 ok_S_l00In (_, _, _) [])
    refine g1 ?_
    refine awp_cond rfl (fun hc1 => ?_) (fun hc1 => ?_)
    · skip
      refine awp_seq ?_
      refine r1 T0_ok hP hm hN ?_
      refine g1 ?_
      refine awp_ret ?_
      refine fin_mk [] rfl rfl ?_ trivial (by decide)
      show D.val (.bool (countsOk xs ys most)) = D.val (.bool false)
      rw [countsOk, all_false (d := 0) hlti (by simpa using hc1), Bool.false_and]
    · skip
      refine awp_skip ?_
      refine r1 T0_ok hP hm hN ?_
      refine g1 ?_
      refine g1 ?_
      refine g1 ?_
      refine ⟨ys.length - (i + 1), _, by omega, weak_sl (sub_cons rfl (sub_cons rfl (sub_cons rfl (sub_cons rfl (sub_nil))))), i + 1, by omega, upto_step hall (by simpa using hc1), rfl, rfl⟩
  · skip
    have hgei : ¬ i < ys.length := by simpa using hc0
    have heqi : i = ys.length := by omega
    refine awp_exit ?_
    repeat refine thenA_exit ?_
    refine blockA_hit ?_
    refine awp_seq ?_
    refine r1 T0_ok hP hm hN ?_
    refine g1 ?_
    refine g1 ?_
    refine g1 ?_
    refine g1 ?_
    refine g1 ?_
    refine g1 ?_
    refine awp_ret ?_
    refine fin_mk [] rfl rfl ?_ trivial (by decide)
    show D.val (.bool (countsOk xs ys most)) = D.val (.bool (decide ((ys.length : Int) = xs.length)))
    rw [countsOk, all_true (d := 0) (fun j hj => hall j (by omega)), Bool.true_and]



def tallOfR (a b c : Int) (xs ys : List Int) (ok : Bool) : Int × Int := if !ok then (0, 1) else if !countsOk xs ys 60 then (0, 2) else (tallW c xs ys xs.length, 0)
theorem countsOk_len {xs ys : List Int} {most : Int} (h : (!countsOk xs ys most) = false) : ys.length = xs.length := by
  simp only [Bool.not_eq_false', countsOk, Bool.and_eq_true, decide_eq_true_eq] at h; omega


noncomputable abbrev s_I_areShelves_1 : Spec (Int × Int) where
  args := fun x => [i64D x.1, .rptr 1 [[.val (.int .i64 x.2)]] 0 0]
  res := fun x => .val (.bool (inI x.1 0 x.2))

set_option maxRecDepth 20000 in
set_option maxHeartbeats 1000000 in
theorem ok_I_areShelves_1 : FnOk Pr 64 s_I_areShelves_1 := by
  refine fn_ok 2 0 T0_ok Go.Proofs.Try.func64 rfl (enters_of Go.Proofs.Try.func64 rfl rfl) (fun _ => rfl) (fun _ => rfl) (fun _ => rfl) ?_
  rintro ⟨n, most⟩ - C hP hN hm hG
  change awp C _ _ ⟨[(0, i64D n), (1, .rptr 1 [[.val (.int .i64 most)]] 0 0)], [], 0⟩
  refine awp_seq ?_
  refine r1 T0_ok hP hm hN ?_
  refine g1 ?_
  refine awp_seq ?_
  refine r1 T0_ok hP hm hN ?_
  refine g1 ?_
  refine g1 ?_
  refine gc1 ?_ (call1 ok_I_within_int64 (_, _, _) [])
  refine g1 ?_
  refine awp_ret ?_
  refine fin_mk [] rfl rfl ?_ trivial (by decide)
  rfl

theorem says_shelves (dom : Int → Prop) (most : Int) : Says i64D dom (fun n => inI n 0 most) (.clo (.func 64) [.rptr 1 [[.val (.int .i64 most)]] 0 0]) :=
  ⟨64, [], [.rptr 1 [[.val (.int .i64 most)]] 0 0], (s_I_areShelves_1).comap (fun n => (n, most)), rfl, rfl, rfl, ok_I_areShelves_1.comap _, fun _ => rfl, fun _ _ => trivial, fun _ => rfl, fun _ => rfl, fun _ => rfl, fun _ => rfl⟩

noncomputable abbrev s_I_areShelves : Spec (List Int × List Int × Int) where
  args := fun x => [.sl 1 (i64s x.1), .sl 1 (i64s x.2.1), .val (.int .i64 x.2.2)]
  pre := fun x => x.1.length ≤ 9223372036854775807 ∧ x.2.1.length ≤ 9223372036854775807
  res := fun x => .val (.bool (countsOk x.1 x.2.1 x.2.2))

set_option maxRecDepth 20000 in
set_option maxHeartbeats 1000000 in
theorem ok_I_areShelves : FnOk Pr 39 s_I_areShelves := by
  refine fn_ok 3 0 T0_ok Go.Proofs.Try.func39 rfl (enters_of Go.Proofs.Try.func39 rfl rfl) (fun _ => rfl) (fun _ => rfl) (fun _ => rfl) ?_
  rintro ⟨xs, ys, most⟩ ⟨hp1, hp2⟩ C hP hN hm hG
  change awp C _ _ ⟨[(0, .sl 1 (i64s xs)), (1, .sl 1 (i64s ys)), (2, .val (.int .i64 most))], [], 0⟩
  simp only at hp1 hp2
  refine awp_seq ?_
  refine r1 T0_ok hP hm hN ?_
  refine g1 ?_
  refine g1 ?_
  refine awp_seq ?_
  refine r1 T0_ok hP hm hN ?_
  refine g1 ?_
  refine g1 ?_
  refine g1 ?_
  refine g1 ?_
  refine g1 ?_
  refine g1 ?_
  refine gg1 ?_
  refine gg1 ?_
  refine ggc1 ?_ (hs := by intro hb; simp +decide only [hb, gd_tt, gd_ff, beq_self_eq_true, Bool.true_and, beq_true]; exact ⟨rfl, _, call1 ok_I_areAll_int64 (_, _, fun n => inI n 0 most) [] (hpre := by (try dsimp only); exact ⟨hp2, rfl, says_shelves _ most⟩), rfl, rfl, rfl⟩)
  refine g1 ?_
  refine g1 ?_
  refine awp_ret ?_
  refine fin_mk [] rfl rfl ?_ trivial (by decide)
  show D.val (.bool (countsOk xs ys most)) = _
  rw [countsOk, Bool.and_comm]
  rfl


end Go.Proofs.Ytclgddkepbpalaa.Abs
