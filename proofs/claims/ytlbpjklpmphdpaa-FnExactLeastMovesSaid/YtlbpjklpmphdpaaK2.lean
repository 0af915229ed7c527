import Derived.Test.YtlbpjklpmphdpaaK1
set_option linter.unusedVariables false
set_option linter.unusedSimpArgs false
namespace Go.Proofs.Ytlbpjklpmphdpaa.Abs
open Go Go.RowKit
def mapF {α β : Type} (g : α → β) (xs : List α) (i : Nat) : List β := (xs.take i).map g
theorem mapF_succ {α β : Type} {d : α} (g : α → β) {xs : List α} {i : Nat} (h : i < xs.length) : mapF g xs (i + 1) = mapF g xs i ++ [g (xs.getD i d)] := by
  have e : xs.getD i d = xs[i] := by simp [List.getD, h]
  unfold mapF
  rw [e, List.take_succ_eq_append_getElem h, List.map_append]
  rfl
theorem mapF_all {α β : Type} (g : α → β) (xs : List α) : mapF g xs xs.length = xs.map g := by simp [mapF]
theorem mapF_len {α β : Type} (g : α → β) (xs : List α) {i : Nat} (h : i ≤ xs.length) : (mapF g xs i).length = i := by simp [mapF]; omega
theorem fnCell_cases {d : D} (h : fnCell d = true) : (∃ v, d = .val v) ∨ ∃ f cs, d = .clo f cs := by
  unfold fnCell at h
  split at h
  · exact .inl ⟨_, rfl⟩
  · exact .inr ⟨_, _, rfl⟩
  · cases h
theorem bks_app (xs ys : List Bk) : bks (xs ++ ys) = bks xs ++ bks ys := by simp
theorem pls_app (xs ys : List Pl) : pls (xs ++ ys) = pls xs ++ pls ys := by simp

noncomputable abbrev s_I_wide : Spec Int where
  args := fun n => [.val (.int .i64 n)]
  res := fun n => .val (.int .i64 n)

set_option maxRecDepth 20000 in
set_option maxHeartbeats 1000000 in
theorem ok_I_wide : FnOk Pr 37 s_I_wide := by
  refine fn_ok 1 0 T0_ok Go.Proofs.Try.func37 rfl (enters_of Go.Proofs.Try.func37 rfl rfl) (fun _ => rfl) (fun _ => rfl) (fun _ => rfl) ?_
  rintro n - C hP hN hm hG
  change awp C _ _ ⟨[(0, .val (.int .i64 n))], [], 0⟩
  refine awp_seq ?_
  refine r1 T0_ok hP hm hN ?_
  refine g1 ?_
  refine awp_seq ?_
  refine r1 T0_ok hP hm hN ?_
  refine g1 ?_
  refine g1 ?_
  refine awp_ret ?_
  refine fin_mk [] rfl rfl ?_ trivial (by decide)
  rfl

theorem does_wide (dom : Int → Prop) : Does Pr (fun p => [i64D p]) dom (fun p => i64D (id p)) (.val (.func (.func 37) #[] #[])) :=
  ⟨37, [], [], s_I_wide, rfl, rfl, rfl, ok_I_wide, fun _ => rfl, fun _ _ => trivial, fun _ => rfl, fun _ => rfl, fun _ => rfl, fun _ => rfl⟩

noncomputable abbrev s_I_each_int_int64 : Spec (List Int × D × (Int → Int)) where
  args := fun x => [.sl 1 (i64s x.1), x.2.1]
  pre := fun x => x.1.length ≤ 1048576 ∧ fnCell x.2.1 = true ∧ Does Pr (fun p => [i64D p]) (· ∈ x.1) (fun p => i64D (x.2.2 p)) x.2.1
  new := fun x => [⟨2, 1, false, i64s (x.1.map x.2.2)⟩]
  res := fun x => .own 0

set_option maxRecDepth 20000 in
set_option maxHeartbeats 1000000 in
theorem ok_I_each_int_int64 : FnOk Pr 36 s_I_each_int_int64 := by
  refine fn_ok 2 0 T0_ok Go.Proofs.Try.func36 rfl (enters_of Go.Proofs.Try.func36 rfl rfl) (fun _ => rfl) (fun _ => rfl) (fun _ => rfl) ?_
  rintro ⟨xs, fn, g⟩ ⟨hp, hf0, hask⟩ C hP hN hm hG
  simp only at hf0 hask
  obtain ⟨v, rfl⟩ | ⟨cf, cs, rfl⟩ := fnCell_cases hf0
  · skip
    change awp C _ _ ⟨[(0, .sl 1 (i64s xs)), (1, .val v)], [], 0⟩
    simp only at hp
    refine awp_seq ?_
    refine r1 T0_ok hP hm hN ?_
    refine g1 ?_
    refine awp_seq ?_
    refine r1 T0_ok hP hm hN ?_
    refine g1 ?_
    refine awp_seq ?_
    refine awp_seq ?_
    refine r1 T0_ok hP hm hN ?_
    refine g1 ?_
    refine g1 ?_
    refine g1 ?_
    refine awp_block ?_
    refine awp_loop (fun n st => ∃ i : Nat, i ≤ xs.length ∧ n = xs.length - i ∧ st = ⟨[(10, .val (.int .i64 (i : Nat))), (9, .val (.int .i64 (xs.length : Nat))), (8, .sl 1 (i64s xs)), (5, .own 0), (1, .val v)], [(0, ⟨2, 1, false, i64s (mapF g xs i)⟩)], 1⟩) (xs.length) ⟨_, (by exact Weak.trans (weak_nil 5 2 1 rfl) (weak_sl (sub_cons rfl (sub_cons rfl (sub_cons rfl (sub_cons rfl (sub_cons rfl (sub_nil)))))))), 0, by omega, rfl, rfl⟩ ?_
    rintro n st ⟨i, hii, hni, rfl⟩
    have hml := mapF_len g xs hii
    refine awp_seq ?_
    refine r1 T0_ok hP hm hN ?_
    refine g1 ?_
    refine awp_seq ?_
    refine awp_cond rfl (fun hc0 => ?_) (fun hc0 => ?_)
    · skip
      have hlti : i < xs.length := by simpa using hc0
      refine awp_skip ?_
      refine awp_seq ?_
      refine awp_block ?_
      refine awp_seq ?_
      refine r1 T0_ok hP hm hN ?_
      refine g1 ?_
      refine g1 ?_
      refine g1 ?_
      refine r1 T0_ok hP hm hN ?_
      refine g1 ?_
      refine g1 ?_
      refine g1 ?_
      refine gc1 ?_ (OpRel.does hask _ (getD_mem' hlti) rfl rfl rfl rfl rfl rfl)
      refine g1 ?_
      refine ga1 ?_
      refine g1 ?_
      refine r1 T0_ok hP hm hN ?_
      refine g1 ?_
      refine g1 ?_
      refine ⟨xs.length - (i + 1), _, by omega, (by rw [mapF_succ (d := 0) g hlti, i64s_app]; exact Weak.trans (weak_drop 2) (Weak.trans (weak_drop 1) (Weak.trans (weak_nx (nx' := 1) (by omega) (by rfl)) (weak_sl (sub_cons rfl (sub_cons rfl (sub_cons rfl (sub_cons rfl (sub_cons rfl (sub_nil)))))))))), i + 1, by omega, rfl, rfl⟩
    · skip
      have hgei : ¬ i < xs.length := by simpa using hc0
      have heqi : i = xs.length := by omega
      rw [heqi, mapF_all]
      refine awp_exit ?_
      repeat refine thenA_exit ?_
      refine blockA_hit ?_
      refine awp_seq ?_
      refine r1 T0_ok hP hm hN ?_
      refine g1 ?_
      refine g1 ?_
      refine awp_ret ?_
      refine fin_mk [0] rfl rfl ?_ (objs_cons rfl rfl rfl rfl rfl (.inl rfl) objs_nil) (by decide)
      rfl
  · skip
    change awp C _ _ ⟨[(0, .sl 1 (i64s xs)), (1, .clo cf cs)], [], 0⟩
    simp only at hp
    refine awp_seq ?_
    refine r1 T0_ok hP hm hN ?_
    refine g1 ?_
    refine awp_seq ?_
    refine r1 T0_ok hP hm hN ?_
    refine g1 ?_
    refine awp_seq ?_
    refine awp_seq ?_
    refine r1 T0_ok hP hm hN ?_
    refine g1 ?_
    refine g1 ?_
    refine g1 ?_
    refine awp_block ?_
    refine awp_loop (fun n st => ∃ i : Nat, i ≤ xs.length ∧ n = xs.length - i ∧ st = ⟨[(10, .val (.int .i64 (i : Nat))), (9, .val (.int .i64 (xs.length : Nat))), (8, .sl 1 (i64s xs)), (5, .own 0), (1, .clo cf cs)], [(0, ⟨2, 1, false, i64s (mapF g xs i)⟩)], 1⟩) (xs.length) ⟨_, (by exact Weak.trans (weak_nil 5 2 1 rfl) (weak_sl (sub_cons rfl (sub_cons rfl (sub_cons rfl (sub_cons rfl (sub_cons rfl (sub_nil)))))))), 0, by omega, rfl, rfl⟩ ?_
    rintro n st ⟨i, hii, hni, rfl⟩
    have hml := mapF_len g xs hii
    refine awp_seq ?_
    refine r1 T0_ok hP hm hN ?_
    refine g1 ?_
    refine awp_seq ?_
    refine awp_cond rfl (fun hc0 => ?_) (fun hc0 => ?_)
    · skip
      have hlti : i < xs.length := by simpa using hc0
      refine awp_skip ?_
      refine awp_seq ?_
      refine awp_block ?_
      refine awp_seq ?_
      refine r1 T0_ok hP hm hN ?_
      refine g1 ?_
      refine g1 ?_
      refine g1 ?_
      refine r1 T0_ok hP hm hN ?_
      refine g1 ?_
      refine g1 ?_
      refine g1 ?_
      refine gc1 ?_ (OpRel.does hask _ (getD_mem' hlti) rfl rfl rfl rfl rfl rfl)
      refine g1 ?_
      refine ga1 ?_
      refine g1 ?_
      refine r1 T0_ok hP hm hN ?_
      refine g1 ?_
      refine g1 ?_
      refine ⟨xs.length - (i + 1), _, by omega, (by rw [mapF_succ (d := 0) g hlti, i64s_app]; exact Weak.trans (weak_drop 2) (Weak.trans (weak_drop 1) (Weak.trans (weak_nx (nx' := 1) (by omega) (by rfl)) (weak_sl (sub_cons rfl (sub_cons rfl (sub_cons rfl (sub_cons rfl (sub_cons rfl (sub_nil)))))))))), i + 1, by omega, rfl, rfl⟩
    · skip
      have hgei : ¬ i < xs.length := by simpa using hc0
      have heqi : i = xs.length := by omega
      rw [heqi, mapF_all]
      refine awp_exit ?_
      repeat refine thenA_exit ?_
      refine blockA_hit ?_
      refine awp_seq ?_
      refine r1 T0_ok hP hm hN ?_
      refine g1 ?_
      refine g1 ?_
      refine awp_ret ?_
      refine fin_mk [0] rfl rfl ?_ (objs_cons rfl rfl rfl rfl rfl (.inl rfl) objs_nil) (by decide)
      rfl

noncomputable abbrev s_S_KeptBooks : Spec (List Bk) where
  args := fun xs => [.sl 8 (bks xs)]
  pre := fun xs => (∀ b ∈ xs, isBk b) ∧ xs.length ≤ 1048576
  new := fun xs => [⟨2, 1, false, i64s (keptR xs).1⟩]
  res := fun xs => .tup [.own 0, .val (.int .i64 (keptR xs).2)]

set_option maxRecDepth 20000 in
set_option maxHeartbeats 1000000 in
theorem ok_S_KeptBooks : FnOk Pr 19 s_S_KeptBooks := by
  refine fn_ok 1 0 T0_ok Go.Proofs.Try.func19 rfl (enters_of Go.Proofs.Try.func19 rfl rfl) (fun _ => rfl) (fun _ => rfl) (fun _ => rfl) ?_
  rintro xs ⟨hv, hl⟩ C hP hN hm hG
  change awp C _ _ ⟨[(0, .sl 8 (bks xs))], [], 0⟩
  refine awp_seq ?_
  refine r1 T0_ok hP hm hN ?_
  refine g1 ?_
  refine g1 ?_
  refine awp_seq ?_
  refine awp_seq ?_
  refine r1 T0_ok hP hm hN ?_
  refine g1 ?_
  refine gc1 ?_ (call1 ok_S_l01Ok _ [] (hpre := by (try dsimp only); exact ⟨hv, by omega⟩))
  refine g1 ?_
  refine awp_cond rfl (fun hc0 => ?_) (fun hc0 => ?_)
  · skip
    have hr : keptR xs = ([], 1) := by rw [keptR, if_pos hc0]
    refine awp_seq ?_
    refine r1 T0_ok hP hm hN ?_
    refine g1 ?_
    refine g1 ?_
    refine g1 ?_
    refine awp_ret ?_
    refine fin_mk [0] rfl rfl ?_ (by simp only [hr]; exact objs_cons rfl rfl rfl rfl rfl (.inl rfl) objs_nil) (by decide)
    show D.tup [.own 0, .val (.int .i64 (keptR xs).2)] = _
    rw [hr]
    rfl
  · skip
    have hr : keptR xs = (keptL xs, 0) := by rw [keptR, if_neg (by rw [hc0]; simp)]
    have hkl := keptL_len xs
    refine awp_skip ?_
    refine awp_seq ?_
    refine r1 T0_ok hP hm hN ?_
    refine g1 ?_
    refine gc1 ?_ (call1 ok_S_l03Kept _ [] (hpre := by (try dsimp only); exact ⟨hv, hl⟩))
    refine g1 ?_
    refine g1 ?_
    refine awp_ret ?_
    refine fin_mk [0] rfl rfl ?_ (by simp only [hr]; exact objs_cons rfl rfl rfl rfl rfl (.inl rfl) objs_nil) (by decide)
    show D.tup [.own 0, .val (.int .i64 (keptR xs).2)] = _
    rw [hr]
    rfl

noncomputable abbrev s_I_KeptBooks : Spec (List Bk) where
  args := fun xs => [.sl 8 (bks xs)]
  pre := fun xs => (∀ b ∈ xs, isBk b) ∧ xs.length ≤ 1048576
  new := fun xs => [⟨2, 1, false, i64s (keptR xs).1⟩]
  res := fun xs => .tup [.own 0, .val (.int .i64 (keptR xs).2)]

set_option maxRecDepth 20000 in
set_option maxHeartbeats 1000000 in
theorem ok_I_KeptBooks : FnOk Pr 20 s_I_KeptBooks := by
  refine fn_ok 1 0 T0_ok Go.Proofs.Try.func20 rfl (enters_of Go.Proofs.Try.func20 rfl rfl) (fun _ => rfl) (fun _ => rfl) (fun _ => rfl) ?_
  rintro xs ⟨hv, hl⟩ C hP hN hm hG
  change awp C _ _ ⟨[(0, .sl 8 (bks xs))], [], 0⟩
  refine awp_seq ?_
  refine r1 T0_ok hP hm hN ?_
  refine g1 ?_
  refine g1 ?_
  refine awp_seq ?_
  refine awp_seq ?_
  refine r1 T0_ok hP hm hN ?_
  refine g1 ?_
  refine gc1 ?_ (call1 ok_I_ValidBooks _ [] (hpre := by (try dsimp only); omega))
  refine g1 ?_
  refine awp_cond rfl (fun hc0 => ?_) (fun hc0 => ?_)
  · skip
    have hr : keptR xs = ([], 1) := by rw [keptR, if_pos hc0]
    refine awp_seq ?_
    refine r1 T0_ok hP hm hN ?_
    refine g1 ?_
    refine g1 ?_
    refine awp_weak (weak_nil 2 2 1 rfl) ?_
    refine awp_ret ?_
    refine fin_mk [0] rfl rfl ?_ (by simp only [hr]; exact objs_cons rfl rfl rfl rfl rfl (.inl rfl) objs_nil) (by decide)
    show D.tup [.own 0, .val (.int .i64 (keptR xs).2)] = _
    rw [hr]
    rfl
  · skip
    have hr : keptR xs = (keptL xs, 0) := by rw [keptR, if_neg (by rw [hc0]; simp)]
    have hkl := keptL_len xs
    refine awp_skip ?_
    refine awp_seq ?_
    refine r1 T0_ok hP hm hN ?_
    refine g1 ?_
    refine gc1 ?_ (call1 ok_I_kept _ [] (hpre := by (try dsimp only); exact ⟨hv, hl⟩))
    refine gc1 ?_ (call1 ok_I_each_int_int64 (_, .val (.func (.func 37) #[] #[]), id) [] (hpre := by (try dsimp only); exact ⟨by have := keptL_len xs; omega, rfl, does_wide _⟩)) (hst := by simp +decide (disch := omega) only [nrm, lk_nrm, dc_nrm, mk_nrm, mf_nrm, ti_nrm, ls_nrm, mp_nrm, nb_nrm, hset, pick_and, pick_or, ↓reduceIte, Nat.reduceAdd, wI64, wI32, wI16, wI8, wU8, List.length_map, Int.toNat_natCast, List.map_id]; rfl)
    refine g1 ?_
    refine g1 ?_
    refine awp_ret ?_
    refine fin_mk [1] rfl rfl ?_ (by simp only [hr]; exact objs_cons rfl rfl rfl rfl rfl (.inl rfl) objs_nil) (by decide)
    show D.tup [.own 1, .val (.int .i64 (keptR xs).2)] = _
    rw [hr]
    rfl

noncomputable abbrev s_S_LeastMoves : Spec (List Bk) where
  args := fun xs => [.sl 8 (bks xs)]
  pre := fun xs => (∀ b ∈ xs, isBk b) ∧ xs.length ≤ 1048576
  res := fun xs => .tup [.val (.int .i64 (leastR xs).1), .val (.int .i64 (leastR xs).2)]

set_option maxRecDepth 20000 in
set_option maxHeartbeats 1000000 in
theorem ok_S_LeastMoves : FnOk Pr 17 s_S_LeastMoves := by
  refine fn_ok 1 0 T0_ok Go.Proofs.Try.func17 rfl (enters_of Go.Proofs.Try.func17 rfl rfl) (fun _ => rfl) (fun _ => rfl) (fun _ => rfl) ?_
  rintro xs ⟨hv, hl⟩ C hP hN hm hG
  change awp C _ _ ⟨[(0, .sl 8 (bks xs))], [], 0⟩
  refine awp_seq ?_
  refine r1 T0_ok hP hm hN ?_
  refine g1 ?_
  refine g1 ?_
  refine awp_seq ?_
  refine awp_seq ?_
  refine r1 T0_ok hP hm hN ?_
  refine g1 ?_
  refine gc1 ?_ (call1 ok_S_l01Ok _ [] (hpre := by (try dsimp only); exact ⟨hv, by omega⟩))
  refine g1 ?_
  refine awp_cond rfl (fun hc0 => ?_) (fun hc0 => ?_)
  · skip
    have hr : leastR xs = (0, 1) := by rw [leastR, if_pos hc0]
    refine awp_seq ?_
    refine r1 T0_ok hP hm hN ?_
    refine g1 ?_
    refine g1 ?_
    refine awp_ret ?_
    refine fin_mk [] rfl rfl ?_ trivial (by decide)
    show D.tup [.val (.int .i64 (leastR xs).1), .val (.int .i64 (leastR xs).2)] = _
    rw [hr]
    rfl
  · skip
    have hr : leastR xs = ((xs.length : Int) - (keptL xs).length, 0) := by rw [leastR, if_neg (by rw [hc0]; simp)]
    have hkl := keptL_len xs
    refine awp_skip ?_
    refine awp_seq ?_
    refine r1 T0_ok hP hm hN ?_
    refine g1 ?_
    refine g1 ?_
    refine g1 ?_
    refine gc1 ?_ (call1 ok_S_l03Kept _ [] (hpre := by (try dsimp only); exact ⟨hv, hl⟩))
    refine g1 ?_
    refine g1 ?_
    refine g1 ?_
    refine g1 ?_
    refine awp_ret ?_
    refine fin_mk [] rfl rfl ?_ trivial (by decide)
    show D.tup [.val (.int .i64 (leastR xs).1), .val (.int .i64 (leastR xs).2)] = _
    rw [hr]
    rfl

noncomputable abbrev s_I_LeastMoves : Spec (List Bk) where
  args := fun xs => [.sl 8 (bks xs)]
  pre := fun xs => (∀ b ∈ xs, isBk b) ∧ xs.length ≤ 1048576
  res := fun xs => .tup [.val (.int .i64 (leastR xs).1), .val (.int .i64 (leastR xs).2)]

set_option maxRecDepth 20000 in
set_option maxHeartbeats 1000000 in
theorem ok_I_LeastMoves : FnOk Pr 18 s_I_LeastMoves := by
  refine fn_ok 1 0 T0_ok Go.Proofs.Try.func18 rfl (enters_of Go.Proofs.Try.func18 rfl rfl) (fun _ => rfl) (fun _ => rfl) (fun _ => rfl) ?_
  rintro xs ⟨hv, hl⟩ C hP hN hm hG
  change awp C _ _ ⟨[(0, .sl 8 (bks xs))], [], 0⟩
  refine awp_seq ?_
  refine r1 T0_ok hP hm hN ?_
  refine g1 ?_
  refine g1 ?_
  refine awp_seq ?_
  refine awp_seq ?_
  refine r1 T0_ok hP hm hN ?_
  refine g1 ?_
  refine gc1 ?_ (call1 ok_I_ValidBooks _ [] (hpre := by (try dsimp only); omega))
  refine g1 ?_
  refine awp_cond rfl (fun hc0 => ?_) (fun hc0 => ?_)
  · skip
    have hr : leastR xs = (0, 1) := by rw [leastR, if_pos hc0]
    refine awp_seq ?_
    refine r1 T0_ok hP hm hN ?_
    refine g1 ?_
    refine g1 ?_
    refine awp_ret ?_
    refine fin_mk [] rfl rfl ?_ trivial (by decide)
    show D.tup [.val (.int .i64 (leastR xs).1), .val (.int .i64 (leastR xs).2)] = _
    rw [hr]
    rfl
  · skip
    have hr : leastR xs = ((xs.length : Int) - (keptL xs).length, 0) := by rw [leastR, if_neg (by rw [hc0]; simp)]
    have hkl := keptL_len xs
    refine awp_skip ?_
    refine awp_seq ?_
    refine r1 T0_ok hP hm hN ?_
    refine g1 ?_
    refine g1 ?_
    refine g1 ?_
    refine gc1 ?_ (call1 ok_I_kept _ [] (hpre := by (try dsimp only); exact ⟨hv, hl⟩))
    refine g1 ?_
    refine g1 ?_
    refine g1 ?_
    refine g1 ?_
    refine awp_ret ?_
    refine fin_mk [] rfl rfl ?_ trivial (by decide)
    show D.tup [.val (.int .i64 (leastR xs).1), .val (.int .i64 (leastR xs).2)] = _
    rw [hr]
    rfl

noncomputable abbrev s_L_FnExactLeastMoves : Spec (List Bk) where
  args := fun x => [.sl 8 (bks x)]
  pre := fun x => ((∀ b ∈ x, isBk b) ∧ x.length ≤ 9223372036854775807)
  res := fun x => .val (.bool true)

set_option maxRecDepth 20000 in
set_option maxHeartbeats 8000000 in
theorem ok_L_FnExactLeastMoves : FnOk Pr 4 s_L_FnExactLeastMoves := by
  refine fn_ok 1 0 T0_ok Go.Proofs.Try.func4 rfl (enters_of Go.Proofs.Try.func4 rfl rfl) (fun _ => rfl) (fun _ => rfl) (fun _ => rfl) ?_
  rintro xs ⟨hv, hl0⟩ C hP hN hm hG
  change awp C _ _ ⟨[(0, .sl 8 (bks xs))], [], 0⟩
  refine awp_seq ?_
  refine r1 T0_ok hP hm hN ?_
  refine g1 ?_
  refine awp_seq ?_
  refine r1 T0_ok hP hm hN ?_
  refine g1 ?_
  refine awp_seq ?_
  refine r1 T0_ok hP hm hN ?_
  refine g1 ?_
  refine g1 ?_
  refine gc1 ?_ (call1 ok_L_szBookS (_, _) [] (hpre := by (try dsimp only); exact ⟨hl0, by omega, by omega⟩))
  refine g1 ?_
  refine awp_seq ?_
  refine awp_seq ?_
  refine r1 T0_ok hP hm hN ?_
  refine g1 ?_
  refine g1 ?_
  refine awp_cond rfl (fun hc0 => ?_) (fun hc0 => ?_)
  · skip
    refine awp_seq ?_
    refine r1 T0_ok hP hm hN ?_
    refine g1 ?_
    refine awp_ret ?_
    refine fin_mk [] rfl rfl ?_ trivial (by decide)
    rfl
  · skip
    have hl : xs.length ≤ 1048576 := by simp only [decide_eq_false_iff_not] at hc0; split at hc0 <;> omega
    refine awp_skip ?_
    refine awp_seq ?_
    refine r1 T0_ok hP hm hN ?_
    refine g1 ?_
    refine gc1 ?_ (call1 ok_L_toBookS _ [] (hpre := by (try dsimp only); exact hl))
    refine gc1 ?_ (call1 ok_S_LeastMoves _ [] (hpre := by (try dsimp only); exact ⟨hv, hl⟩))
    refine g1 ?_
    refine g1 ?_
    refine g1 ?_
    refine g1 ?_
    refine g1 ?_
    refine awp_seq ?_
    refine r1 T0_ok hP hm hN ?_
    refine g1 ?_
    refine gc1 ?_ (call1 ok_L_toBookS _ [] (hpre := by (try dsimp only); exact hl))
    refine g1 ?_
    refine awp_seq ?_
    refine r1 T0_ok hP hm hN ?_
    refine g1 ?_
    refine gc1 ?_ (call1 ok_I_LeastMoves _ [] (hpre := by (try dsimp only); exact ⟨hv, hl⟩))
    refine g1 ?_
    refine g1 ?_
    refine g1 ?_
    refine g1 ?_
    refine g1 ?_
    refine awp_seq ?_
    refine awp_seq ?_
    refine r1 T0_ok hP hm hN ?_
    refine g1 ?_
    refine g1 ?_
    refine g1 ?_
    refine g1 ?_
    refine gg1 ?_
    refine gg1 ?_
    refine gg1 ?_
    refine g1 ?_
    refine awp_cond rfl (fun hc1 => ?_) (fun hc1 => ?_)
    · skip
      exfalso; simp [ask] at hc1
    · skip
      refine awp_skip ?_
      refine awp_seq ?_
      refine awp_seq ?_
      refine r1 T0_ok hP hm hN ?_
      refine g1 ?_
      refine g1 ?_
      refine gc1 ?_ (call1 ok_L_toBookS _ [] (hpre := by (try dsimp only); exact hl))
      refine gc1 ?_ (call1 ok_L_eqBookS (_, _) [] (hpre := by (try dsimp only); exact ⟨by omega, by omega⟩))
      refine g1 ?_
      refine awp_cond rfl (fun hc2 => ?_) (fun hc2 => ?_)
      · skip
        exfalso; simp [ask] at hc2
      · skip
        refine awp_skip ?_
        refine awp_seq ?_
        refine r1 T0_ok hP hm hN ?_
        refine g1 ?_
        refine awp_ret ?_
        refine fin_mk [] rfl rfl ?_ trivial (by decide)
        rfl

noncomputable abbrev s_L_FnExactKeptBooks : Spec (List Bk) where
  args := fun x => [.sl 8 (bks x)]
  pre := fun x => ((∀ b ∈ x, isBk b) ∧ x.length ≤ 9223372036854775807)
  res := fun x => .val (.bool true)

set_option maxRecDepth 20000 in
set_option maxHeartbeats 8000000 in
theorem ok_L_FnExactKeptBooks : FnOk Pr 5 s_L_FnExactKeptBooks := by
  refine fn_ok 1 0 T0_ok Go.Proofs.Try.func5 rfl (enters_of Go.Proofs.Try.func5 rfl rfl) (fun _ => rfl) (fun _ => rfl) (fun _ => rfl) ?_
  rintro xs ⟨hv, hl0⟩ C hP hN hm hG
  change awp C _ _ ⟨[(0, .sl 8 (bks xs))], [], 0⟩
  have hs := keptR_len xs
  refine awp_seq ?_
  refine r1 T0_ok hP hm hN ?_
  refine g1 ?_
  refine awp_seq ?_
  refine r1 T0_ok hP hm hN ?_
  refine g1 ?_
  refine awp_seq ?_
  refine r1 T0_ok hP hm hN ?_
  refine g1 ?_
  refine g1 ?_
  refine gc1 ?_ (call1 ok_L_szBookS (_, _) [] (hpre := by (try dsimp only); exact ⟨hl0, by omega, by omega⟩))
  refine g1 ?_
  refine awp_seq ?_
  refine awp_seq ?_
  refine r1 T0_ok hP hm hN ?_
  refine g1 ?_
  refine g1 ?_
  refine awp_cond rfl (fun hc0 => ?_) (fun hc0 => ?_)
  · skip
    refine awp_seq ?_
    refine r1 T0_ok hP hm hN ?_
    refine g1 ?_
    refine awp_ret ?_
    refine fin_mk [] rfl rfl ?_ trivial (by decide)
    rfl
  · skip
    have hl : xs.length ≤ 1048576 := by simp only [decide_eq_false_iff_not] at hc0; split at hc0 <;> omega
    refine awp_skip ?_
    refine awp_seq ?_
    refine r1 T0_ok hP hm hN ?_
    refine g1 ?_
    refine gc1 ?_ (call1 ok_L_toBookS _ [] (hpre := by (try dsimp only); exact hl))
    refine gc1 ?_ (call1 ok_S_KeptBooks _ [] (hpre := by (try dsimp only); exact ⟨hv, hl⟩))
    refine g1 ?_
    refine g1 ?_
    refine g1 ?_
    refine g1 ?_
    refine g1 ?_
    refine awp_seq ?_
    refine r1 T0_ok hP hm hN ?_
    refine g1 ?_
    refine gc1 ?_ (call1 ok_L_toBookS _ [] (hpre := by (try dsimp only); exact hl))
    refine g1 ?_
    refine awp_seq ?_
    refine r1 T0_ok hP hm hN ?_
    refine g1 ?_
    refine gc1 ?_ (call1 ok_I_KeptBooks _ [] (hpre := by (try dsimp only); exact ⟨hv, hl⟩))
    refine g1 ?_
    refine g1 ?_
    refine g1 ?_
    refine g1 ?_
    refine g1 ?_
    refine awp_seq ?_
    refine awp_seq ?_
    refine r1 T0_ok hP hm hN ?_
    refine g1 ?_
    refine g1 ?_
    refine gc1 ?_ (call1 ok_L_eqInt64S (_, _) [] (hpre := by (try dsimp only); omega))
    refine g1 ?_
    refine g1 ?_
    refine gg1 ?_
    refine gg1 ?_
    refine gg1 ?_
    refine g1 ?_
    refine awp_cond rfl (fun hc1 => ?_) (fun hc1 => ?_)
    · skip
      exfalso; simp [ask] at hc1
    · skip
      refine awp_skip ?_
      refine awp_seq ?_
      refine awp_seq ?_
      refine r1 T0_ok hP hm hN ?_
      refine g1 ?_
      refine g1 ?_
      refine gc1 ?_ (call1 ok_L_toBookS _ [] (hpre := by (try dsimp only); exact hl))
      refine gc1 ?_ (call1 ok_L_eqBookS (_, _) [] (hpre := by (try dsimp only); exact ⟨by omega, by omega⟩))
      refine g1 ?_
      refine awp_cond rfl (fun hc2 => ?_) (fun hc2 => ?_)
      · skip
        exfalso; simp [ask] at hc2
      · skip
        refine awp_skip ?_
        refine awp_seq ?_
        refine r1 T0_ok hP hm hN ?_
        refine g1 ?_
        refine awp_seq ?_
        refine r1 T0_ok hP hm hN ?_
        refine g1 ?_
        refine g1 ?_
        refine gc1 ?_ (call1 ok_L_markBookS (xs, _) [2] (hpre := by (try dsimp only); exact ⟨by omega, by omega, by omega⟩))
        refine g1 ?_
        refine awp_seq ?_
        refine awp_seq ?_
        refine r1 T0_ok hP hm hN ?_
        refine g1 ?_
        refine g1 ?_
        refine g1 ?_
        refine gg1 ?_
        refine gg1 ?_
        refine ggc1 ?_ (hs := by intro hb; simp +decide only [hb, gd_tt, gd_ff, beq_self_eq_true, Bool.true_and, beq_true]; exact ⟨rfl, _, call1 ok_L_eqInt64S (_, _) [] (hpre := by (try dsimp only); omega), rfl, rfl, rfl⟩)
        refine gg1 ?_
        refine g1 ?_
        refine g1 ?_
        refine gg1 ?_
        refine gg1 ?_
        refine gg1 ?_
        refine g1 ?_
        refine awp_cond rfl (fun hc3 => ?_) (fun hc3 => ?_)
        · skip
          exfalso; simp [ask] at hc3; omega
        · skip
          refine awp_skip ?_
          refine awp_seq ?_
          refine r1 T0_ok hP hm hN ?_
          refine g1 ?_
          refine awp_seq ?_
          refine r1 T0_ok hP hm hN ?_
          refine g1 ?_
          refine g1 ?_
          refine gc1 ?_ (call1 ok_L_markInt64S ((keptR xs).1, _) [3] (hpre := by (try dsimp only); exact ⟨by omega, by omega, by omega⟩))
          refine g1 ?_
          refine awp_seq ?_
          refine r1 T0_ok hP hm hN ?_
          refine g1 ?_
          refine awp_seq ?_
          refine r1 T0_ok hP hm hN ?_
          refine g1 ?_
          refine g1 ?_
          refine gc1 ?_ (call1 ok_L_heldInt64S (mkd_int (keptR xs).1.length 1, _) [] (hpre := by (try dsimp only); exact ⟨by rw [mkd_int_len]; omega, by omega, by rw [mkd_int_len]; omega⟩)) (hst := by simp +decide (disch := omega) only [nrm, lk_nrm, dc_nrm, mk_nrm, mf_nrm, ti_nrm, ls_nrm, mp_nrm, nb_nrm, hset, pick_and, pick_or, ↓reduceIte, Nat.reduceAdd, wI64, wI32, wI16, wI8, wU8, List.length_map, Int.toNat_natCast, heldR_int_mkd]; rfl)
          refine g1 ?_
          refine awp_seq ?_
          refine awp_seq ?_
          refine r1 T0_ok hP hm hN ?_
          refine g1 ?_
          refine g1 ?_
          refine awp_cond rfl (fun hc4 => ?_) (fun hc4 => ?_)
          · skip
            exfalso; simp [ask] at hc4; omega
          · skip
            refine awp_skip ?_
            refine awp_seq ?_
            refine awp_seq ?_
            refine r1 T0_ok hP hm hN ?_
            refine g1 ?_
            refine g1 ?_
            refine g1 ?_
            refine awp_cond rfl (fun hc5 => ?_) (fun hc5 => ?_)
            · skip
              exfalso; simp [ask] at hc5
            · skip
              refine awp_skip ?_
              refine awp_seq ?_
              refine r1 T0_ok hP hm hN ?_
              refine g1 ?_
              refine gc1 ?_ (call1 ok_L_toBookS _ [] (hpre := by (try dsimp only); exact hl))
              refine gc1 ?_ (call1 ok_I_KeptBooks _ [] (hpre := by (try dsimp only); exact ⟨hv, hl⟩))
              refine g1 ?_
              refine g1 ?_
              refine g1 ?_
              refine g1 ?_
              refine g1 ?_
              refine awp_seq ?_
              refine awp_seq ?_
              refine r1 T0_ok hP hm hN ?_
              refine g1 ?_
              refine g1 ?_
              refine gc1 ?_ (call1 ok_L_eqInt64S (_, _) [] (hpre := by (try dsimp only); omega))
              refine g1 ?_
              refine g1 ?_
              refine gg1 ?_
              refine gg1 ?_
              refine gg1 ?_
              refine g1 ?_
              refine awp_cond rfl (fun hc6 => ?_) (fun hc6 => ?_)
              · skip
                exfalso; simp [ask] at hc6
              · skip
                refine awp_skip ?_
                refine awp_seq ?_
                refine r1 T0_ok hP hm hN ?_
                refine g1 ?_
                refine awp_seq ?_
                refine r1 T0_ok hP hm hN ?_
                refine g1 ?_
                refine g1 ?_
                refine gc1 ?_ (call1 ok_L_heldInt64S (mkd_int (keptR xs).1.length 1, _) [] (hpre := by (try dsimp only); exact ⟨by rw [mkd_int_len]; omega, by omega, by rw [mkd_int_len]; omega⟩)) (hst := by simp +decide (disch := omega) only [nrm, lk_nrm, dc_nrm, mk_nrm, mf_nrm, ti_nrm, ls_nrm, mp_nrm, nb_nrm, hset, pick_and, pick_or, ↓reduceIte, Nat.reduceAdd, wI64, wI32, wI16, wI8, wU8, List.length_map, Int.toNat_natCast, heldR_int_mkd]; rfl)
                refine g1 ?_
                refine awp_seq ?_
                refine awp_seq ?_
                refine r1 T0_ok hP hm hN ?_
                refine g1 ?_
                refine g1 ?_
                refine awp_cond rfl (fun hc7 => ?_) (fun hc7 => ?_)
                · skip
                  exfalso; simp [ask] at hc7; omega
                · skip
                  refine awp_skip ?_
                  refine awp_seq ?_
                  refine awp_seq ?_
                  refine r1 T0_ok hP hm hN ?_
                  refine g1 ?_
                  refine g1 ?_
                  refine g1 ?_
                  refine awp_cond rfl (fun hc8 => ?_) (fun hc8 => ?_)
                  · skip
                    exfalso; simp [ask] at hc8
                  · skip
                    refine awp_skip ?_
                    refine awp_seq ?_
                    refine r1 T0_ok hP hm hN ?_
                    refine g1 ?_
                    refine awp_ret ?_
                    refine fin_mk [] rfl rfl ?_ trivial (by decide)
                    rfl
end Go.Proofs.Ytlbpjklpmphdpaa.Abs
