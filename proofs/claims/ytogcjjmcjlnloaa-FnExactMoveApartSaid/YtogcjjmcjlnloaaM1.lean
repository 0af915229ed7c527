import Derived.Test.YtogcjjmcjlnloaaW12
set_option linter.unusedVariables false
set_option linter.unusedSimpArgs false
namespace Go.Proofs.Ytogcjjmcjlnloaa.Abs
open Go Go.RowKit
abbrev bkKs : List IntKind := [.i16, .u8, .u8, .u8, .i16, .i16, .i16, .i16]
abbrev bkNs (x : Bk) : List Int := [x.cls, x.m0, x.m1, x.m2, x.vol, x.wide, x.high, x.weight]
theorem eqT_i16 (n : Nat) : EqT Pr (n + 1) 22 false [.i16] := eqT_int T0_ok rfl rfl rfl
theorem eqT_u8 (n : Nat) : EqT Pr (n + 1) 5 false [.u8] := eqT_int T0_ok rfl rfl rfl
theorem eqT_a3 : EqT Pr 2 41 true [.u8, .u8, .u8] := eqT_arr3 T0_ok rfl rfl rfl (eqT_u8 0)
set_option maxRecDepth 100000 in
theorem eqT_bk : EqT Pr 3 43 true bkKs := eqT_struct (kss := [[.i16], [.u8, .u8, .u8], [.i16], [.i16], [.i16], [.i16]]) T0_ok rfl (by kernel_rfl) (by kernel_rfl) ⟨by decide +kernel, by kernel_rfl, ⟨_, eqT_i16 1⟩, by decide +kernel, by kernel_rfl, ⟨_, eqT_a3⟩, by decide +kernel, by kernel_rfl, ⟨_, eqT_i16 1⟩, by decide +kernel, by kernel_rfl, ⟨_, eqT_i16 1⟩, by decide +kernel, by kernel_rfl, ⟨_, eqT_i16 1⟩, by decide +kernel, by kernel_rfl, ⟨_, eqT_i16 1⟩, trivial⟩ rfl rfl
theorem eqG_bk : Pr.eqGuardType Pr.depth 43 = false := by kernel_rfl
theorem bkNs_eq {x y : Bk} : decide (bkNs x = bkNs y) = ask (x = y) := by
  rw [Bool.eq_iff_iff, decide_eq_true_eq, ask_iff]
  constructor
  · intro h
    simp only [bkNs, List.cons.injEq, and_true] at h
    obtain ⟨h1, h2, h3, h4, h5, h6, h7, h8⟩ := h
    exact Bk.same h1 h2 h3 h4 h5 h6 h7 h8
  · rintro rfl; rfl

noncomputable abbrev s_slices_Equal_I_Book_I_Book : Spec (List Bk × List Bk) where
  args := fun x => [.sl 8 (bks x.1), .sl 8 (bks x.2)]
  pre := fun x => x.1.length ≤ 9223372036854775807 ∧ x.2.length ≤ 9223372036854775807
  res := fun x => .val (.bool (ask (x.1 = x.2)))

set_option maxRecDepth 20000 in
set_option maxHeartbeats 4000000 in
theorem ok_slices_Equal_I_Book_I_Book : FnOk Pr 32 s_slices_Equal_I_Book_I_Book := by
  refine fn_ok 2 0 T0_ok Go.Proofs.Try.func32 rfl (enters_of Go.Proofs.Try.func32 rfl rfl) (fun _ => rfl) (fun _ => rfl) (fun _ => rfl) ?_
  rintro ⟨xs, ys⟩ ⟨hp, hp2⟩ C hP hN hm hG
  change awp C _ _ ⟨[(0, .sl 8 (bks xs)), (1, .sl 8 (bks ys))], [], 0⟩
  simp only at hp hp2
  refine awp_seq ?_
  refine r1 T0_ok hP hm hN ?_
  refine g1 ?_
  refine awp_seq ?_
  refine awp_seq ?_
  refine r1 T0_ok hP hm hN ?_
  refine g1 ?_
  refine g1 ?_
  refine g1 ?_
  refine g1 ?_
  refine g1 ?_
  refine awp_cond rfl (fun hc0 => ?_) (fun hc0 => ?_)
  · skip
    refine awp_seq ?_
    refine r1 T0_ok hP hm hN ?_
    refine g1 ?_
    refine awp_ret ?_
    refine fin_mk [] rfl rfl ?_ trivial (by decide)
    show D.val (.bool (ask (xs = ys))) = D.val (.bool false)
    rw [ask_false (fun h => by subst h; simp at hc0)]
  · skip
    have hl : xs.length = ys.length := by simp at hc0; omega
    refine awp_skip ?_
    refine awp_seq ?_
    refine awp_seq ?_
    refine r1 T0_ok hP hm hN ?_
    refine g1 ?_
    refine g1 ?_
    refine g1 ?_
    refine awp_block ?_
    refine awp_loop (fun n st => ∃ i : Nat, i ≤ xs.length ∧ (∀ j, j < i → xs.getD j bk0 = ys.getD j bk0) ∧ n = xs.length - i ∧ st = ⟨[(13, .val (.int .i64 (i : Nat))), (12, .val (.int .i64 (xs.length : Nat))), (0, .sl 8 (bks xs)), (1, .sl 8 (bks ys))], [], 0⟩) (xs.length) ⟨_, weak_sl (sub_cons rfl (sub_cons rfl (sub_cons rfl (sub_cons rfl (sub_nil))))), 0, by omega, fun j h => by omega, rfl, rfl⟩ ?_
    rintro n st ⟨i, hii, hall, hni, rfl⟩
    refine awp_seq ?_
    refine r1 T0_ok hP hm hN ?_
    refine g1 ?_
    refine awp_seq ?_
    refine awp_cond rfl (fun hc1 => ?_) (fun hc1 => ?_)
    · skip
      have hlti : i < xs.length := by simpa using hc1
      refine awp_skip ?_
      refine awp_seq ?_
      refine awp_block ?_
      refine awp_seq ?_
      refine r1 T0_ok hP hm hN ?_
      refine g1 ?_
      refine g1 ?_
      refine awp_seq ?_
      refine awp_draw T0_ok hP hm hN Pr_mix [0, 1, 2, 3, 4, 5, 6, 7, 8, 9, 10, 11] [] _ rfl (by rfl) ?_
      refine d1 T0_ok ?_
      refine d1 T0_ok ?_
      refine d1 T0_ok ?_
      refine d1 T0_ok ?_
      refine d1 T0_ok ?_
      refine d1 T0_ok ?_
      refine d1 T0_ok ?_
      refine d1 T0_ok ?_
      refine dfr ?_ (fun hp nx => oprel_neS (xs := bkNs (xs.getD i bk0)) (ys := bkNs (ys.getD i bk0)) eqT_bk (by omega) eqG_bk rfl rfl rfl rfl rfl)
      refine dreg_nil ?_
      refine awp_cond rfl (fun hc2 => ?_) (fun hc2 => ?_)
      · skip
        refine awp_seq ?_
        refine r1 T0_ok hP hm hN ?_
        refine g1 ?_
        refine awp_ret ?_
        refine fin_mk [] rfl rfl ?_ trivial (by decide)
        show D.val (.bool (ask (xs = ys))) = D.val (.bool false)
        rw [ask_false (fun h => by subst h; simp at hc2)]
      · skip
        refine awp_skip ?_
        refine r1 T0_ok hP hm hN ?_
        refine g1 ?_
        refine g1 ?_
        refine ⟨xs.length - (i + 1), _, by omega, weak_sl (sub_cons rfl (sub_cons rfl (sub_cons rfl (sub_cons rfl (sub_nil))))), i + 1, by omega, upto_step hall (ask_iff.1 (by rw [bkNs_eq] at hc2; simpa using hc2)), rfl, rfl⟩
    · skip
      have hgei : ¬ i < xs.length := by simpa using hc1
      have heqi : i = xs.length := by omega
      refine awp_exit ?_
      repeat refine thenA_exit ?_
      refine blockA_hit ?_
      refine awp_seq ?_
      refine r1 T0_ok hP hm hN ?_
      refine g1 ?_
      refine awp_ret ?_
      refine fin_mk [] rfl rfl ?_ trivial (by decide)
      show D.val (.bool (ask (xs = ys))) = D.val (.bool true)
      rw [ask_true (list_ext' (d := bk0) hl (fun j hj => hall j (by omega)))]

noncomputable abbrev s_S_l01Same : Spec (List Bk × List Bk) where
  args := fun x => [.sl 8 (bks x.1), .sl 8 (bks x.2)]
  pre := fun x => x.1.length ≤ 9223372036854775807 ∧ x.2.length ≤ 9223372036854775807
  res := fun x => .val (.bool (ask (x.1 = x.2)))

set_option maxRecDepth 20000 in
set_option maxHeartbeats 4000000 in
theorem ok_S_l01Same : FnOk Pr 11 s_S_l01Same := by
  refine fn_ok 2 0 T0_ok Go.Proofs.Try.func11 rfl (enters_of Go.Proofs.Try.func11 rfl rfl) (fun _ => rfl) (fun _ => rfl) (fun _ => rfl) ?_
  rintro ⟨xs, ys⟩ ⟨hp, hp2⟩ C hP hN hm hG
  change awp C _ _ ⟨[(0, .sl 8 (bks xs)), (1, .sl 8 (bks ys))], [], 0⟩
  simp only at hp hp2
  refine awp_seq ?_
  refine r1 T0_ok hP hm hN ?_
  refine g1 ?_
  refine awp_seq ?_
  refine awp_seq ?_
  refine r1 T0_ok hP hm hN ?_
  refine g1 ?_
  refine g1 ?_
  refine g1 ?_
  refine g1 ?_
  refine g1 ?_
  refine awp_cond rfl (fun hc0 => ?_) (fun hc0 => ?_)
  · skip
    refine awp_seq ?_
    refine r1 T0_ok hP hm hN ?_
    refine g1 ?_
    refine awp_ret ?_
    refine fin_mk [] rfl rfl ?_ trivial (by decide)
    show D.val (.bool (ask (xs = ys))) = D.val (.bool false)
    rw [ask_false (fun h => by subst h; simp at hc0)]
  · skip
    have hl : xs.length = ys.length := by simp at hc0; omega
    refine awp_skip ?_
    refine awp_seq ?_
    refine awp_seq ?_
    refine r1 T0_ok hP hm hN ?_
    refine g1 ?_
    refine awp_block ?_
    refine awp_loop (fun n st => ∃ i : Nat, i ≤ xs.length ∧ (∀ j, j < i → xs.getD j bk0 = ys.getD j bk0) ∧ n = xs.length - i ∧ st = ⟨[(5, .val (.int .i64 (i : Nat))), (0, .sl 8 (bks xs)), (1, .sl 8 (bks ys))], [], 0⟩) (xs.length) ⟨_, weak_sl (sub_cons rfl (sub_cons rfl (sub_cons rfl (sub_nil)))), 0, by omega, fun j h => by omega, rfl, rfl⟩ ?_
    rintro n st ⟨i, hii, hall, hni, rfl⟩
    refine awp_seq ?_
    refine awp_seq ?_
    refine r1 T0_ok hP hm hN ?_
    refine g1 ?_
    refine g1 ?_
    refine g1 ?_
    refine g1 ?_
    refine awp_cond rfl (fun hc1 => ?_) (fun hc1 => ?_)
    · skip
      have hlti : i < xs.length := by simpa using hc1
      refine awp_skip ?_
      refine awp_seq ?_
      refine awp_block ?_
      refine awp_seq ?_
      refine awp_draw T0_ok hP hm hN Pr_mix [0, 1, 2, 3, 4, 5, 6, 7, 8, 9, 10, 11] [] _ rfl (by rfl) ?_
      refine d1 T0_ok ?_
      refine d1 T0_ok ?_
      refine d1 T0_ok ?_
      refine d1 T0_ok ?_
      refine d1 T0_ok ?_
      refine d1 T0_ok ?_
      refine d1 T0_ok ?_
      refine d1 T0_ok ?_
      refine dfr ?_ (fun hp nx => oprel_neS (xs := bkNs (xs.getD i bk0)) (ys := bkNs (ys.getD i bk0)) eqT_bk (by omega) eqG_bk rfl rfl rfl rfl rfl)
      refine dreg_nil ?_
      refine awp_cond rfl (fun hc2 => ?_) (fun hc2 => ?_)
      · skip
        refine awp_seq ?_
        refine r1 T0_ok hP hm hN ?_
        refine g1 ?_
        refine awp_ret ?_
        refine fin_mk [] rfl rfl ?_ trivial (by decide)
        show D.val (.bool (ask (xs = ys))) = D.val (.bool false)
        rw [ask_false (fun h => by subst h; simp at hc2)]
      · skip
        refine awp_skip ?_
        refine r1 T0_ok hP hm hN ?_
        refine g1 ?_
        refine g1 ?_
        refine g1 ?_
        refine ⟨xs.length - (i + 1), _, by omega, weak_sl (sub_cons rfl (sub_cons rfl (sub_cons rfl (sub_nil)))), i + 1, by omega, upto_step hall (ask_iff.1 (by rw [bkNs_eq] at hc2; simpa using hc2)), rfl, rfl⟩
    · skip
      have hgei : ¬ i < xs.length := by simpa using hc1
      have heqi : i = xs.length := by omega
      refine awp_exit ?_
      repeat refine thenA_exit ?_
      refine blockA_hit ?_
      refine awp_seq ?_
      refine r1 T0_ok hP hm hN ?_
      refine g1 ?_
      refine awp_ret ?_
      refine fin_mk [] rfl rfl ?_ trivial (by decide)
      show D.val (.bool (ask (xs = ys))) = D.val (.bool true)
      rw [ask_true (list_ext' (d := bk0) hl (fun j hj => hall j (by omega)))]

noncomputable abbrev s_I_SameBooks : Spec (List Bk × List Bk) where
  args := fun x => [.sl 8 (bks x.1), .sl 8 (bks x.2)]
  pre := fun x => x.1.length ≤ 9223372036854775807 ∧ x.2.length ≤ 9223372036854775807
  res := fun x => .val (.bool (ask (x.1 = x.2)))

set_option maxRecDepth 20000 in
set_option maxHeartbeats 1000000 in
theorem ok_I_SameBooks : FnOk Pr 16 s_I_SameBooks := by
  refine fn_ok 2 0 T0_ok Go.Proofs.Try.func16 rfl (enters_of Go.Proofs.Try.func16 rfl rfl) (fun _ => rfl) (fun _ => rfl) (fun _ => rfl) ?_
  rintro ⟨xs, ys⟩ ⟨hp, hp2⟩ C hP hN hm hG
  change awp C _ _ ⟨[(0, .sl 8 (bks xs)), (1, .sl 8 (bks ys))], [], 0⟩
  simp only at hp hp2
  refine awp_seq ?_
  refine r1 T0_ok hP hm hN ?_
  refine g1 ?_
  refine awp_seq ?_
  refine r1 T0_ok hP hm hN ?_
  refine g1 ?_
  refine g1 ?_
  refine gc1 ?_ (call1 ok_slices_Equal_I_Book_I_Book (_, _) [] (hpre := by (try dsimp only); exact ⟨hp, hp2⟩))
  refine g1 ?_
  refine awp_ret ?_
  refine fin_mk [] rfl rfl ?_ trivial (by decide)
  rfl

noncomputable abbrev s_S_l05Books : Spec (Int × List Pl) where
  args := fun x => [.rptr 2 [[.val (.int .i16 x.1), .sl 9 (pls x.2)]] 0 0]
  pre := fun x => x.2.length ≤ 1048576
  new := fun x => [⟨43, 8, false, bks (x.2.map Prod.snd)⟩]
  res := fun x => .own 0

set_option maxRecDepth 20000 in
set_option maxHeartbeats 1000000 in
theorem ok_S_l05Books : FnOk Pr 12 s_S_l05Books := by
  refine fn_ok 1 0 T0_ok Go.Proofs.Try.func12 rfl (enters_of Go.Proofs.Try.func12 rfl rfl) (fun _ => rfl) (fun _ => rfl) (fun _ => rfl) ?_
  rintro ⟨p, xs⟩ hl C hP hN hm hG
  change awp C _ _ ⟨[(0, .rptr 2 [[.val (.int .i16 p), .sl 9 (pls xs)]] 0 0)], [], 0⟩
  have hl : xs.length ≤ 1048576 := hl
  refine awp_seq ?_
  refine r1 T0_ok hP hm hN ?_
  refine g1 ?_
  refine awp_seq ?_
  refine r1 T0_ok hP hm hN ?_
  refine g1 ?_
  refine g1 ?_
  refine awp_seq ?_
  refine awp_seq ?_
  refine r1 T0_ok hP hm hN ?_
  refine g1 ?_
  refine awp_block ?_
  refine awp_loop (fun n st => ∃ i : Nat, i ≤ xs.length ∧ n = xs.length - i ∧ st = ⟨[(4, .val (.int .i64 (i : Nat))), (3, .own 0), (0, .rptr 2 [[.val (.int .i16 p), .sl 9 (pls xs)]] 0 0)], [(0, ⟨43, 8, false, bks (mapF Prod.snd xs i)⟩)], 1⟩) (xs.length) ⟨_, weak_sl (sub_cons rfl (sub_cons rfl (sub_cons rfl (sub_nil)))), 0, by omega, rfl, rfl⟩ ?_
  rintro n st ⟨i, hii, hni, rfl⟩
  refine awp_seq ?_
  refine awp_seq ?_
  refine r1 T0_ok hP hm hN ?_
  refine g1 ?_
  refine g1 ?_
  refine g1 ?_
  refine g1 ?_
  refine g1 ?_
  refine g1 ?_
  refine g1 ?_
  refine awp_cond rfl (fun hc0 => ?_) (fun hc0 => ?_)
  · skip
    have hlti : i < xs.length := by simpa using hc0
    have hml := mapF_len (Prod.snd : Pl → Bk) xs hii
    refine awp_skip ?_
    refine awp_seq ?_
    refine awp_block ?_
    refine r1 T0_ok hP hm hN ?_
    refine g1 ?_
    refine g1 ?_
    refine g1 ?_
    refine g1 ?_
    refine g1 ?_
    refine g1 ?_
    refine g1 ?_
    refine g1 ?_
    refine g1 ?_
    refine g1 ?_
    refine ga1 ?_
    refine g1 ?_
    refine r1 T0_ok hP hm hN ?_
    refine g1 ?_
    refine g1 ?_
    refine g1 ?_
    refine ⟨xs.length - (i + 1), _, by omega, (by rw [mapF_succ (d := pl0) Prod.snd hlti, bks_app]; exact Weak.trans (weak_drop 1) (Weak.trans (weak_nx (nx' := 1) (by omega) (by rfl)) (weak_sl (sub_cons rfl (sub_cons rfl (sub_cons rfl (sub_nil))))))), i + 1, by omega, rfl, rfl⟩
  · skip
    have hgei : ¬ i < xs.length := by simpa using hc0
    have heqi : i = xs.length := by omega
    rw [heqi, mapF_all]
    refine awp_exit ?_
    repeat refine thenA_exit ?_
    refine blockA_hit ?_
    refine awp_seq ?_
    refine r1 T0_ok hP hm hN ?_
    refine g1 ?_
    refine g1 ?_
    refine awp_ret ?_
    refine fin_mk [0] rfl rfl ?_ (objs_cons rfl rfl rfl rfl rfl (.inl rfl) objs_nil) (by decide)
    rfl
end Go.Proofs.Ytogcjjmcjlnloaa.Abs
