import Derived.Test.YtafobbekeoghiaaW12
set_option linter.unusedVariables false
set_option linter.unusedSimpArgs false
namespace Go.Proofs.Ytafobbekeoghiaa.Abs
open Go Go.RowKit
noncomputable abbrev s_S_l05Books : Spec (Int × List Pl) where
  args := fun x => [.rptr 2 [[.val (.int .i16 x.1), .sl 9 (pls x.2)]] 0 0]
  pre := fun x => x.2.length ≤ 1048576
  new := fun x => [⟨36, 8, false, bks (x.2.map Prod.snd)⟩]
  res := fun x => .own 0

set_option maxRecDepth 20000 in
set_option maxHeartbeats 1000000 in
theorem ok_S_l05Books : FnOk Pr 57 s_S_l05Books := by
  refine fn_ok 1 0 T0_ok Go.Proofs.Try.func57 rfl (enters_of Go.Proofs.Try.func57 rfl rfl) (fun _ => rfl) (fun _ => rfl) (fun _ => rfl) ?_
  rintro ⟨p, xs⟩ hl C hP hN hm hG
  change awp C _ _ ⟨[(0, .rptr 2 [[.val (.int .i16 p), .sl 9 (pls xs)]] 0 0)], [], 0⟩
  have hl : xs.length ≤ 1048576 := hl
  refine awp_seq ?_
  refine r1 T0_ok hP hm hN ?_
  refine g1 ?_
  refine awp_seq ?_
  refine r1 T0_ok hP hm hN ?_
  refine g1 ?_
  refine g1 ?_
  refine awp_seq ?_
  refine awp_seq ?_
  refine r1 T0_ok hP hm hN ?_
  refine g1 ?_
  refine awp_block ?_
  refine awp_loop (fun n st => ∃ i : Nat, i ≤ xs.length ∧ n = xs.length - i ∧ st = ⟨[(4, .val (.int .i64 (i : Nat))), (3, .own 0), (0, .rptr 2 [[.val (.int .i16 p), .sl 9 (pls xs)]] 0 0)], [(0, ⟨36, 8, false, bks (mapF Prod.snd xs i)⟩)], 1⟩) (xs.length) ⟨_, weak_sl (sub_cons rfl (sub_cons rfl (sub_cons rfl (sub_nil)))), 0, by omega, rfl, rfl⟩ ?_
  rintro n st ⟨i, hii, hni, rfl⟩
  refine awp_seq ?_
  refine awp_seq ?_
  refine r1 T0_ok hP hm hN ?_
  refine g1 ?_
  refine g1 ?_
  refine g1 ?_
  refine g1 ?_
  refine g1 ?_
  refine g1 ?_
  refine g1 ?_
  refine awp_cond rfl (fun hc0 => ?_) (fun hc0 => ?_)
  · skip
    have hlti : i < xs.length := by simpa using hc0
    have hml := mapF_len (Prod.snd : Pl → Bk) xs hii
    refine awp_skip ?_
    refine awp_seq ?_
    refine awp_block ?_
    refine r1 T0_ok hP hm hN ?_
    refine g1 ?_
    refine g1 ?_
    refine g1 ?_
    refine g1 ?_
    refine g1 ?_
    refine g1 ?_
    refine g1 ?_
    refine g1 ?_
    refine g1 ?_
    refine g1 ?_
    refine ga1 ?_
    refine g1 ?_
    refine r1 T0_ok hP hm hN ?_
    refine g1 ?_
    refine g1 ?_
    refine g1 ?_
    refine ⟨xs.length - (i + 1), _, by omega, (by rw [mapF_succ (d := pl0) Prod.snd hlti, bks_app]; exact Weak.trans (weak_drop 1) (Weak.trans (weak_nx (nx' := 1) (by omega) (by rfl)) (weak_sl (sub_cons rfl (sub_cons rfl (sub_cons rfl (sub_nil))))))), i + 1, by omega, rfl, rfl⟩
  · skip
    have hgei : ¬ i < xs.length := by simpa using hc0
    have heqi : i = xs.length := by omega
    rw [heqi, mapF_all]
    refine awp_exit ?_
    repeat refine thenA_exit ?_
    refine blockA_hit ?_
    refine awp_seq ?_
    refine r1 T0_ok hP hm hN ?_
    refine g1 ?_
    refine g1 ?_
    refine awp_ret ?_
    refine fin_mk [0] rfl rfl ?_ (objs_cons rfl rfl rfl rfl rfl (.inl rfl) objs_nil) (by decide)
    rfl
end Go.Proofs.Ytafobbekeoghiaa.Abs
