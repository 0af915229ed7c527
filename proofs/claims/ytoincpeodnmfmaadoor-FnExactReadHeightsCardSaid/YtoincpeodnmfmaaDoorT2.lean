import Derived.Test.YtoincpeodnmfmaaDoorT1
set_option linter.unusedVariables false
set_option linter.unusedSimpArgs false
namespace Go.Proofs.YtoincpeodnmfmaaDoor.Abs
open Go Go.RowKit
def okMv (m : Mv) : Bool := inI m.1 0 99 && inI m.2 0 99
theorem okMv_tx {m : Mv} (h : okMv m = true) : txOk m := by
  rw [okMv, Bool.and_eq_true] at h
  have h1 := inI_iff.1 h.1
  have h2 := inI_iff.1 h.2
  exact ⟨⟨h1.1, by omega⟩, h2.1, by omega⟩
noncomputable def mtR (ms : List Mv) : ByteArray := if decide ((ms.length : Int) ≤ 200) && ms.all okMv then joinS ms else ⟨#[]⟩
theorem all_tx {ms : List Mv} (h : ms.all okMv = true) : ∀ m ∈ ms, txOk m := fun m hm => okMv_tx (List.all_eq_true.1 h m hm)


noncomputable abbrev s_I_dec_int16 : Spec Int where
  args := fun n => [.val (.int .i16 n)]
  pre := fun n => 0 ≤ n ∧ n < 10000
  res := fun n => .val (.string (decS n))

set_option maxRecDepth 20000 in
set_option maxHeartbeats 1000000 in
theorem ok_I_dec_int16 : FnOk Pr 42 s_I_dec_int16 := by
  refine fn_ok 1 0 T0_ok Go.Proofs.Tryd.func42 rfl (enters_of Go.Proofs.Tryd.func42 rfl rfl) (fun _ => rfl) (fun _ => rfl) (fun _ => rfl) ?_
  rintro n ⟨hn0, hn1⟩ C hP hN hm hG
  change awp C _ _ ⟨[(0, .val (.int .i16 n))], [], 0⟩
  have hn0 : 0 ≤ n := hn0
  have hn1 : n < 10000 := hn1
  refine awp_seq ?_
  refine r1 T0_ok hP hm hN ?_
  refine g1 ?_
  refine awp_seq ?_
  refine r1 T0_ok hP hm hN ?_
  refine g1 ?_
  refine g1 ?_
  refine gc1 ?_ (call1 ok_strconv_FormatInt _ [] (hpre := by (try dsimp only); exact ⟨by omega, by omega⟩))
  refine g1 ?_
  refine awp_ret ?_
  refine fin_mk [] rfl rfl ?_ trivial (by decide)
  rfl

noncomputable abbrev s_I_movesText_1 : Spec Mv where
  args := fun m => [mvD m]
  pre := fun m => txOk m
  res := fun m => .val (.string (mvT m))

set_option maxRecDepth 20000 in
set_option maxHeartbeats 1000000 in
theorem ok_I_movesText_1 : FnOk Pr 41 s_I_movesText_1 := by
  refine fn_ok 1 0 T0_ok Go.Proofs.Tryd.func41 rfl (enters_of Go.Proofs.Tryd.func41 rfl rfl) (fun _ => rfl) (fun _ => rfl) (fun _ => rfl) ?_
  rintro ⟨a, b⟩ ⟨⟨h1, h2⟩, h3, h4⟩ C hP hN hm hG
  change awp C _ _ ⟨[(0, mvD (a, b))], [], 0⟩
  simp only at h1 h2 h3 h4
  have s1 := decS_size h1 h2
  have s2 := decS_size h3 h4
  have s3 : gtB.size = 1 := rfl
  have s4 := app_size (decS a) gtB
  refine awp_seq ?_
  refine r1 T0_ok hP hm hN ?_
  refine g1 ?_
  refine g1 ?_
  refine awp_seq ?_
  refine awp_draw T0_ok hP hm hN Pr_mix [0, 1, 2, 3, 4, 5, 6, 7, 8, 9, 10, 11] [2, 6] _ rfl (by rfl) ?_
  refine d1 T0_ok ?_
  refine d1 T0_ok ?_
  refine dp1 ?_ (call1 ok_I_dec_int16 _ [] (hpre := by (try dsimp only); exact ⟨by omega, by omega⟩))
  refine d1 T0_ok ?_ (hpre := by show (decS a).size + gtB.size ≤ _; omega)
  refine d1 T0_ok ?_
  refine d1 T0_ok ?_
  refine dp1 ?_ (call1 ok_I_dec_int16 _ [] (hpre := by (try dsimp only); exact ⟨by omega, by omega⟩))
  refine d1 T0_ok ?_ (hpre := by show (decS a ++ gtB).size + (decS b).size ≤ _; omega)
  refine d1 T0_ok ?_
  refine dreg_nil ?_
  refine awp_ret ?_
  refine fin_mk [] rfl rfl ?_ trivial (by decide)
  rfl

theorem does_mvT {ms : List Mv} (h : ∀ m ∈ ms, txOk m) : Does Pr (fun m => [mvD m]) (· ∈ ms) (fun m => strD (mvT m)) (.val (.func (.func 41) #[] #[])) :=
  ⟨41, [], [], s_I_movesText_1, rfl, rfl, rfl, ok_I_movesText_1, fun _ => rfl, fun m hm => h m hm, fun _ => rfl, fun _ => rfl, fun _ => rfl, fun _ => rfl⟩

noncomputable abbrev s_I_isMoveText_1 : Spec Mv where
  args := fun m => [mvD m]
  res := fun m => .val (.bool (okMv m))

set_option maxRecDepth 20000 in
set_option maxHeartbeats 1000000 in
theorem ok_I_isMoveText_1 : FnOk Pr 37 s_I_isMoveText_1 := by
  refine fn_ok 1 0 T0_ok Go.Proofs.Tryd.func37 rfl (enters_of Go.Proofs.Tryd.func37 rfl rfl) (fun _ => rfl) (fun _ => rfl) (fun _ => rfl) ?_
  rintro ⟨a, b⟩ - C hP hN hm hG
  change awp C _ _ ⟨[(0, mvD (a, b))], [], 0⟩
  refine awp_seq ?_
  refine r1 T0_ok hP hm hN ?_
  refine g1 ?_
  refine g1 ?_
  refine awp_seq ?_
  refine r1 T0_ok hP hm hN ?_
  refine g1 ?_
  refine g1 ?_
  refine gc1 ?_ (call1 ok_I_within_int16 (_, _, _) [])
  refine g1 ?_
  refine gg1 ?_
  refine gg1 ?_
  refine ggc1 ?_ (hs := by intro hb; simp +decide only [hb, gd_tt, gd_ff, beq_self_eq_true, Bool.true_and, beq_true]; exact ⟨rfl, _, call1 ok_I_within_int16 (_, _, _) [], rfl, rfl, rfl⟩)
  refine g1 ?_
  refine g1 ?_
  refine awp_ret ?_
  refine fin_mk [] rfl rfl ?_ trivial (by decide)
  rfl

theorem says_okMv (dom : Mv → Prop) : Does Pr (fun m => [mvD m]) dom (fun m => .val (.bool (okMv m))) (.val (.func (.func 37) #[] #[])) :=
  ⟨37, [], [], s_I_isMoveText_1, rfl, rfl, rfl, ok_I_isMoveText_1, fun _ => rfl, fun _ _ => trivial, fun _ => rfl, fun _ => rfl, fun _ => rfl, fun _ => rfl⟩

noncomputable abbrev s_slices_IndexFunc_I_Move_I_Move : Spec (List Mv × D × (Mv → Bool)) where
  args := fun x => [.sl 2 (mvs x.1), x.2.1]
  pre := fun x => x.1.length ≤ 9223372036854775807 ∧ Says mvD (· ∈ x.1) x.2.2 x.2.1
  res := fun x => .val (.int .i64 (idxOf x.2.2 x.1))

set_option maxRecDepth 20000 in
set_option maxHeartbeats 1000000 in
theorem ok_slices_IndexFunc_I_Move_I_Move : FnOk Pr 74 s_slices_IndexFunc_I_Move_I_Move := by
  refine fn_ok 2 0 T0_ok Go.Proofs.Tryd.func74 rfl (enters_of Go.Proofs.Tryd.func74 rfl rfl) (fun _ => rfl) (fun _ => rfl) (fun _ => rfl) ?_
  rintro ⟨xs, fn, p⟩ ⟨hp, hask⟩ C hP hN hm hG
  change awp C _ _ ⟨[(0, .sl 2 (mvs xs)), (1, fn)], [], 0⟩
  simp only at hp hask
  refine awp_seq ?_
  refine r1 T0_ok hP hm hN ?_
  refine g1 ?_
  refine awp_seq ?_
  refine awp_seq ?_
  refine r1 T0_ok hP hm hN ?_
  refine g1 ?_
  refine g1 ?_
  refine g1 ?_
  refine awp_block ?_
  refine awp_loop (fun n st => ∃ i : Nat, i ≤ xs.length ∧ (∀ j, j < i → p (xs.getD j mv0) = false) ∧ n = xs.length - i ∧ st = ⟨[(8, .val (.int .i64 (i : Nat))), (7, .val (.int .i64 (xs.length : Nat))), (0, .sl 2 (mvs xs)), (1, fn)], [], 0⟩) (xs.length) ⟨_, weak_sl (sub_cons rfl (sub_cons rfl (sub_cons rfl (sub_cons rfl (sub_nil))))), 0, by omega, fun j h1 => by omega, rfl, rfl⟩ ?_
  rintro n st ⟨i, hii, hall, hni, rfl⟩
  refine awp_seq ?_
  refine r1 T0_ok hP hm hN ?_
  refine g1 ?_
  refine awp_seq ?_
  refine awp_cond rfl (fun hc0 => ?_) (fun hc0 => ?_)
  · skip
    have hlti : i < xs.length := by simpa using hc0
    have hgx := mvs_get xs i hlti
    refine awp_skip ?_
    refine awp_seq ?_
    refine awp_block ?_
    refine awp_seq ?_
    refine r1 T0_ok hP hm hN ?_
    refine g1 ?_
    refine g1 ?_
    refine awp_seq ?_
    refine r1 T0_ok hP hm hN ?_
    refine g1 ?_
    refine g1 ?_
    refine g1 ?_
    refine g1 ?_
    refine g1 ?_
    refine gc1 ?_ (OpRel.does hask _ (by first | exact getD_mem' hlti | exact hn) rfl rfl rfl rfl rfl rfl)
    refine awp_cond rfl (fun hc1 => ?_) (fun hc1 => ?_)
    · skip
      refine awp_seq ?_
      refine r1 T0_ok hP hm hN ?_
      refine g1 ?_
      refine g1 ?_
      refine awp_ret ?_
      refine fin_mk [] rfl rfl ?_ trivial (by decide)
      show D.val (.int .i64 (idxOf p xs)) = _
      rw [idxOf_some (d := mv0) hlti hc1 (fun j hj => hall j hj)]
      rfl
    · skip
      refine awp_skip ?_
      refine r1 T0_ok hP hm hN ?_
      refine g1 ?_
      refine g1 ?_
      refine ⟨xs.length - (i + 1), _, by omega, weak_sl (sub_cons rfl (sub_cons rfl (sub_cons rfl (sub_cons rfl (sub_nil))))), i + 1, by omega, upto_step hall hc1, rfl, rfl⟩
  · skip
    have hgei : ¬ i < xs.length := by simpa using hc0
    have heqi : i = xs.length := by omega
    refine awp_exit ?_
    repeat refine thenA_exit ?_
    refine blockA_hit ?_
    refine awp_seq ?_
    refine r1 T0_ok hP hm hN ?_
    refine g1 ?_
    refine awp_ret ?_
    refine fin_mk [] rfl rfl ?_ trivial (by decide)
    show D.val (.int .i64 (idxOf p xs)) = _
    rw [idxOf_none (d := mv0) (fun j hj => hall j (by omega))]
    rfl

noncomputable abbrev s_slices_ContainsFunc_I_Move_I_Move : Spec (List Mv × D × (Mv → Bool)) where
  args := fun x => [.sl 2 (mvs x.1), x.2.1]
  pre := fun x => x.1.length ≤ 9223372036854775807 ∧ Says mvD (· ∈ x.1) x.2.2 x.2.1
  res := fun x => .val (.bool (x.1.any x.2.2))

set_option maxRecDepth 20000 in
set_option maxHeartbeats 1000000 in
theorem ok_slices_ContainsFunc_I_Move_I_Move : FnOk Pr 57 s_slices_ContainsFunc_I_Move_I_Move := by
  refine fn_ok 2 0 T0_ok Go.Proofs.Tryd.func57 rfl (enters_of Go.Proofs.Tryd.func57 rfl rfl) (fun _ => rfl) (fun _ => rfl) (fun _ => rfl) ?_
  rintro ⟨xs, fn, p⟩ hp C hP hN hm hG
  change awp C _ _ ⟨[(0, .sl 2 (mvs xs)), (1, fn)], [], 0⟩
  refine awp_seq ?_
  refine r1 T0_ok hP hm hN ?_
  refine g1 ?_
  refine awp_seq ?_
  refine r1 T0_ok hP hm hN ?_
  refine g1 ?_
  refine g1 ?_
  refine gc1 ?_ (call1 ok_slices_IndexFunc_I_Move_I_Move (_, _, p) [] (hargs := (by exact args_cons arga_slsl (args_cons (arga_does (by exact hp.2)) args_nil))) (hpre := by (try dsimp only); exact hp))
  refine g1 ?_
  refine g1 ?_
  refine awp_ret ?_
  refine fin_mk [] rfl rfl ?_ trivial (by decide)
  show D.val (.bool (xs.any p)) = _
  rw [← idxOf_any]
  rfl

noncomputable abbrev s_I_areAll_I_Move_1 (fn : D) (dom : Mv → Prop) (p : Mv → Bool) : Spec Mv where
  args := fun n => [mvD n, .rptr 1 [[fn]] 0 0]
  pre := fun n => dom n
  res := fun n => .val (.bool (!p n))

set_option maxRecDepth 20000 in
set_option maxHeartbeats 1000000 in
theorem ok_I_areAll_I_Move_1 (fn : D) (dom : Mv → Prop) (p : Mv → Bool) (hask : Says mvD dom p fn) : FnOk Pr 58 (s_I_areAll_I_Move_1 fn dom p) := by
  refine fn_ok 2 0 T0_ok Go.Proofs.Tryd.func58 rfl (enters_of Go.Proofs.Tryd.func58 rfl rfl) (fun _ => rfl) (fun _ => rfl) (fun _ => rfl) ?_
  rintro n hn C hP hN hm hG
  change awp C _ _ ⟨[(0, mvD n), (1, .rptr 1 [[fn]] 0 0)], [], 0⟩
  refine awp_seq ?_
  refine r1 T0_ok hP hm hN ?_
  refine g1 ?_
  refine g1 ?_
  refine awp_seq ?_
  refine r1 T0_ok hP hm hN ?_
  refine g1 ?_
  refine g1 ?_
  refine gc1 ?_ (OpRel.does hask _ (by first | exact getD_mem' hlti | exact hn) rfl rfl rfl rfl rfl rfl)
  refine g1 ?_
  refine g1 ?_
  refine awp_ret ?_
  refine fin_mk [] rfl rfl ?_ trivial (by decide)
  rfl

theorem says_not_move {fn : D} {dom : Mv → Prop} {p : Mv → Bool} (h : Says mvD dom p fn) : Says mvD dom (fun n => !p n) (.clo (.func 58) [.rptr 1 [[fn]] 0 0]) :=
  ⟨58, [], [.rptr 1 [[fn]] 0 0], s_I_areAll_I_Move_1 fn dom p, rfl, rfl, rfl, ok_I_areAll_I_Move_1 fn dom p h, fun _ => rfl, fun _ h => h, fun _ => rfl, fun _ => rfl, fun _ => rfl, fun _ => rfl⟩

noncomputable abbrev s_I_areAll_I_Move : Spec (List Mv × D × (Mv → Bool)) where
  args := fun x => [.sl 2 (mvs x.1), x.2.1]
  pre := fun x => x.1.length ≤ 9223372036854775807 ∧ fnCell x.2.1 = true ∧ Says mvD (· ∈ x.1) x.2.2 x.2.1
  res := fun x => .val (.bool (x.1.all x.2.2))

set_option maxRecDepth 20000 in
set_option maxHeartbeats 1000000 in
theorem ok_I_areAll_I_Move : FnOk Pr 36 s_I_areAll_I_Move := by
  refine fn_ok 2 0 T0_ok Go.Proofs.Tryd.func36 rfl (enters_of Go.Proofs.Tryd.func36 rfl rfl) (fun _ => rfl) (fun _ => rfl) (fun _ => rfl) ?_
  rintro ⟨xs, fn, p⟩ ⟨hp, hf0, hask⟩ C hP hN hm hG
  change awp C _ _ ⟨[(0, .sl 2 (mvs xs)), (1, fn)], [], 0⟩
  simp only at hp hf0 hask
  obtain ⟨hdc, hcl, hhf, hsf⟩ := fnCell_ok hf0
  refine awp_seq ?_
  refine r1 T0_ok hP hm hN ?_
  refine g1 ?_ (hpre := by exact hcl) (hst := by simp +decide (disch := omega) only [nrm, lk_nrm, dc_nrm, mk_nrm, mf_nrm, ti_nrm, ls_nrm, mp_nrm, nb_nrm, hset, pick_and, pick_or, ↓reduceIte, Nat.reduceAdd, wI64, wI32, wI16, wI8, wU8, List.length_map, Int.toNat_natCast, hdc]; rfl)
  refine g1 ?_ (hst := by simp +decide (disch := omega) only [nrm, lk_nrm, dc_nrm, mk_nrm, mf_nrm, ti_nrm, ls_nrm, mp_nrm, nb_nrm, hset, pick_and, pick_or, ↓reduceIte, Nat.reduceAdd, wI64, wI32, wI16, wI8, wU8, List.length_map, Int.toNat_natCast, hdc]; rfl)
  refine awp_seq ?_
  refine r1 T0_ok hP hm hN ?_
  refine g1 ?_ (hst := by simp +decide (disch := omega) only [nrm, lk_nrm, dc_nrm, mk_nrm, mf_nrm, ti_nrm, ls_nrm, mp_nrm, nb_nrm, hset, pick_and, pick_or, ↓reduceIte, Nat.reduceAdd, wI64, wI32, wI16, wI8, wU8, List.length_map, Int.toNat_natCast, hdc]; rfl)
  refine g1 ?_ (hst := by simp +decide (disch := omega) only [nrm, lk_nrm, dc_nrm, mk_nrm, mf_nrm, ti_nrm, ls_nrm, mp_nrm, nb_nrm, hset, pick_and, pick_or, ↓reduceIte, Nat.reduceAdd, wI64, wI32, wI16, wI8, wU8, List.length_map, Int.toNat_natCast, hdc]; rfl)
  refine gc1 ?_ (call1 ok_slices_ContainsFunc_I_Move_I_Move (_, _, fun n => !p n) [] (hpre := by (try dsimp only); exact ⟨hp, says_not_move hask⟩)) (hst := by simp +decide (disch := omega) only [nrm, lk_nrm, dc_nrm, mk_nrm, mf_nrm, ti_nrm, ls_nrm, mp_nrm, nb_nrm, hset, pick_and, pick_or, ↓reduceIte, Nat.reduceAdd, wI64, wI32, wI16, wI8, wU8, List.length_map, Int.toNat_natCast, hdc]; rfl)
  refine g1 ?_ (hst := by simp +decide (disch := omega) only [nrm, lk_nrm, dc_nrm, mk_nrm, mf_nrm, ti_nrm, ls_nrm, mp_nrm, nb_nrm, hset, pick_and, pick_or, ↓reduceIte, Nat.reduceAdd, wI64, wI32, wI16, wI8, wU8, List.length_map, Int.toNat_natCast, hdc]; rfl)
  refine g1 ?_ (hst := by simp +decide (disch := omega) only [nrm, lk_nrm, dc_nrm, mk_nrm, mf_nrm, ti_nrm, ls_nrm, mp_nrm, nb_nrm, hset, pick_and, pick_or, ↓reduceIte, Nat.reduceAdd, wI64, wI32, wI16, wI8, wU8, List.length_map, Int.toNat_natCast, hdc]; rfl)
  refine awp_ret ?_
  refine fin_mk [] rfl rfl ?_ trivial (by decide)
  show D.val (.bool (xs.all p)) = _
  rw [← any_not]
  rfl

noncomputable abbrev s_I_isMoveText : Spec (List Mv) where
  args := fun ms => [.sl 2 (mvs ms)]
  pre := fun ms => ms.length ≤ 1048576
  res := fun ms => .val (.bool (decide ((ms.length : Int) ≤ 200) && ms.all okMv))

set_option maxRecDepth 20000 in
set_option maxHeartbeats 1000000 in
theorem ok_I_isMoveText : FnOk Pr 23 s_I_isMoveText := by
  refine fn_ok 1 0 T0_ok Go.Proofs.Tryd.func23 rfl (enters_of Go.Proofs.Tryd.func23 rfl rfl) (fun _ => rfl) (fun _ => rfl) (fun _ => rfl) ?_
  rintro ms hl C hP hN hm hG
  change awp C _ _ ⟨[(0, .sl 2 (mvs ms))], [], 0⟩
  have hl : ms.length ≤ 1048576 := hl
  refine awp_seq ?_
  refine r1 T0_ok hP hm hN ?_
  refine g1 ?_
  refine awp_seq ?_
  refine r1 T0_ok hP hm hN ?_
  refine g1 ?_
  refine g1 ?_
  refine g1 ?_
  refine g1 ?_
  refine gg1 ?_
  refine ggc1 ?_ (hs := by intro hb; simp +decide only [hb, gd_tt, gd_ff, beq_self_eq_true, Bool.true_and, beq_true]; exact ⟨rfl, _, call1 ok_I_areAll_I_Move (ms, _, okMv) [] (hpre := by (try dsimp only); exact ⟨by omega, rfl, says_okMv _⟩), rfl, rfl, rfl⟩)
  refine g1 ?_
  refine g1 ?_
  refine awp_ret ?_
  refine fin_mk [] rfl rfl ?_ trivial (by decide)
  rfl

noncomputable abbrev s_I_each_I_Move_string : Spec (List Mv × D × (Mv → ByteArray)) where
  args := fun x => [.sl 2 (mvs x.1), x.2.1]
  pre := fun x => x.1.length ≤ 1048576 ∧ fnCell x.2.1 = true ∧ Does Pr (fun p => [mvD p]) (· ∈ x.1) (fun p => strD (x.2.2 p)) x.2.1
  new := fun x => [⟨9, 1, false, strs (x.1.map x.2.2)⟩]
  res := fun x => .own 0

set_option maxRecDepth 20000 in
set_option maxHeartbeats 1000000 in
theorem ok_I_each_I_Move_string : FnOk Pr 40 s_I_each_I_Move_string := by
  refine fn_ok 2 0 T0_ok Go.Proofs.Tryd.func40 rfl (enters_of Go.Proofs.Tryd.func40 rfl rfl) (fun _ => rfl) (fun _ => rfl) (fun _ => rfl) ?_
  rintro ⟨xs, fn, g⟩ ⟨hp, hf0, hask⟩ C hP hN hm hG
  simp only at hf0 hask
  obtain ⟨v, rfl⟩ | ⟨cf, cs, rfl⟩ := fnCell_cases hf0
  · skip
    change awp C _ _ ⟨[(0, .sl 2 (mvs xs)), (1, .val v)], [], 0⟩
    simp only at hp
    refine awp_seq ?_
    refine r1 T0_ok hP hm hN ?_
    refine g1 ?_
    refine awp_seq ?_
    refine r1 T0_ok hP hm hN ?_
    refine g1 ?_
    refine awp_seq ?_
    refine awp_seq ?_
    refine r1 T0_ok hP hm hN ?_
    refine g1 ?_
    refine g1 ?_
    refine g1 ?_
    refine awp_block ?_
    refine awp_loop (fun n st => ∃ i : Nat, i ≤ xs.length ∧ n = xs.length - i ∧ st = ⟨[(10, .val (.int .i64 (i : Nat))), (9, .val (.int .i64 (xs.length : Nat))), (8, .sl 2 (mvs xs)), (5, .own 0), (1, .val v)], [(0, ⟨9, 1, false, strs (mapF g xs i)⟩)], 1⟩) (xs.length) ⟨_, (by exact Weak.trans (weak_nil 5 9 1 rfl) (weak_sl (sub_cons rfl (sub_cons rfl (sub_cons rfl (sub_cons rfl (sub_cons rfl (sub_nil)))))))), 0, by omega, rfl, rfl⟩ ?_
    rintro n st ⟨i, hii, hni, rfl⟩
    have hml := mapF_len g xs hii
    refine awp_seq ?_
    refine r1 T0_ok hP hm hN ?_
    refine g1 ?_
    refine awp_seq ?_
    refine awp_cond rfl (fun hc0 => ?_) (fun hc0 => ?_)
    · skip
      have hlti : i < xs.length := by simpa using hc0
      have hgx := mvs_get xs i hlti
      refine awp_skip ?_
      refine awp_seq ?_
      refine awp_block ?_
      refine awp_seq ?_
      refine r1 T0_ok hP hm hN ?_
      refine g1 ?_
      refine g1 ?_
      refine g1 ?_
      refine g1 ?_
      refine r1 T0_ok hP hm hN ?_
      refine g1 ?_
      refine g1 ?_
      refine g1 ?_
      refine gc1 ?_ (OpRel.does hask _ (getD_mem' hlti) rfl rfl rfl rfl rfl rfl)
      refine g1 ?_
      refine ga1 ?_
      refine g1 ?_
      refine r1 T0_ok hP hm hN ?_
      refine g1 ?_
      refine g1 ?_
      refine ⟨xs.length - (i + 1), _, by omega, (by rw [mapF_succ (d := mv0) g hlti, strs_app]; exact Weak.trans (weak_drop 2) (Weak.trans (weak_drop 1) (Weak.trans (weak_nx (nx' := 1) (by omega) (by rfl)) (weak_sl (sub_cons rfl (sub_cons rfl (sub_cons rfl (sub_cons rfl (sub_cons rfl (sub_nil)))))))))), i + 1, by omega, rfl, rfl⟩
    · skip
      have hgei : ¬ i < xs.length := by simpa using hc0
      have heqi : i = xs.length := by omega
      rw [heqi, mapF_all]
      refine awp_exit ?_
      repeat refine thenA_exit ?_
      refine blockA_hit ?_
      refine awp_seq ?_
      refine r1 T0_ok hP hm hN ?_
      refine g1 ?_
      refine g1 ?_
      refine awp_ret ?_
      refine fin_mk [0] rfl rfl ?_ (objs_cons rfl rfl rfl rfl rfl (.inl rfl) objs_nil) (by decide)
      rfl
  · skip
    change awp C _ _ ⟨[(0, .sl 2 (mvs xs)), (1, .clo cf cs)], [], 0⟩
    simp only at hp
    refine awp_seq ?_
    refine r1 T0_ok hP hm hN ?_
    refine g1 ?_
    refine awp_seq ?_
    refine r1 T0_ok hP hm hN ?_
    refine g1 ?_
    refine awp_seq ?_
    refine awp_seq ?_
    refine r1 T0_ok hP hm hN ?_
    refine g1 ?_
    refine g1 ?_
    refine g1 ?_
    refine awp_block ?_
    refine awp_loop (fun n st => ∃ i : Nat, i ≤ xs.length ∧ n = xs.length - i ∧ st = ⟨[(10, .val (.int .i64 (i : Nat))), (9, .val (.int .i64 (xs.length : Nat))), (8, .sl 2 (mvs xs)), (5, .own 0), (1, .clo cf cs)], [(0, ⟨9, 1, false, strs (mapF g xs i)⟩)], 1⟩) (xs.length) ⟨_, (by exact Weak.trans (weak_nil 5 9 1 rfl) (weak_sl (sub_cons rfl (sub_cons rfl (sub_cons rfl (sub_cons rfl (sub_cons rfl (sub_nil)))))))), 0, by omega, rfl, rfl⟩ ?_
    rintro n st ⟨i, hii, hni, rfl⟩
    have hml := mapF_len g xs hii
    refine awp_seq ?_
    refine r1 T0_ok hP hm hN ?_
    refine g1 ?_
    refine awp_seq ?_
    refine awp_cond rfl (fun hc0 => ?_) (fun hc0 => ?_)
    · skip
      have hlti : i < xs.length := by simpa using hc0
      have hgx := mvs_get xs i hlti
      refine awp_skip ?_
      refine awp_seq ?_
      refine awp_block ?_
      refine awp_seq ?_
      refine r1 T0_ok hP hm hN ?_
      refine g1 ?_
      refine g1 ?_
      refine g1 ?_
      refine g1 ?_
      refine r1 T0_ok hP hm hN ?_
      refine g1 ?_
      refine g1 ?_
      refine g1 ?_
      refine gc1 ?_ (OpRel.does hask _ (getD_mem' hlti) rfl rfl rfl rfl rfl rfl)
      refine g1 ?_
      refine ga1 ?_
      refine g1 ?_
      refine r1 T0_ok hP hm hN ?_
      refine g1 ?_
      refine g1 ?_
      refine ⟨xs.length - (i + 1), _, by omega, (by rw [mapF_succ (d := mv0) g hlti, strs_app]; exact Weak.trans (weak_drop 2) (Weak.trans (weak_drop 1) (Weak.trans (weak_nx (nx' := 1) (by omega) (by rfl)) (weak_sl (sub_cons rfl (sub_cons rfl (sub_cons rfl (sub_cons rfl (sub_cons rfl (sub_nil)))))))))), i + 1, by omega, rfl, rfl⟩
    · skip
      have hgei : ¬ i < xs.length := by simpa using hc0
      have heqi : i = xs.length := by omega
      rw [heqi, mapF_all]
      refine awp_exit ?_
      repeat refine thenA_exit ?_
      refine blockA_hit ?_
      refine awp_seq ?_
      refine r1 T0_ok hP hm hN ?_
      refine g1 ?_
      refine g1 ?_
      refine awp_ret ?_
      refine fin_mk [0] rfl rfl ?_ (objs_cons rfl rfl rfl rfl rfl (.inl rfl) objs_nil) (by decide)
      rfl

noncomputable abbrev s_I_movesText : Spec (List Mv) where
  args := fun ms => [.sl 2 (mvs ms)]
  pre := fun ms => (∀ m ∈ ms, txOk m) ∧ ms.length ≤ 200
  res := fun ms => .val (.string (joinS ms))

set_option maxRecDepth 20000 in
set_option maxHeartbeats 1000000 in
theorem ok_I_movesText : FnOk Pr 24 s_I_movesText := by
  refine fn_ok 1 0 T0_ok Go.Proofs.Tryd.func24 rfl (enters_of Go.Proofs.Tryd.func24 rfl rfl) (fun _ => rfl) (fun _ => rfl) (fun _ => rfl) ?_
  rintro ms ⟨hms, hl⟩ C hP hN hm hG
  change awp C _ _ ⟨[(0, .sl 2 (mvs ms))], [], 0⟩
  have hl : ms.length ≤ 200 := hl
  refine awp_seq ?_
  refine r1 T0_ok hP hm hN ?_
  refine g1 ?_
  refine awp_seq ?_
  refine r1 T0_ok hP hm hN ?_
  refine g1 ?_
  refine gc1 ?_ (call1 ok_I_each_I_Move_string (ms, _, mvT) [] (hpre := by (try dsimp only); exact ⟨by omega, rfl, does_mvT hms⟩) (hfo := by intro o ho; simp only [List.nil_append, List.mem_singleton] at ho; subst ho; exact flat_strs _ _ _ _))
  refine gc1 ?_ (call1 ok_strings_Join (ms.map mvT, spB) [] (hpre := by (try dsimp only); exact ⟨by rw [List.length_map]; omega, by have := join_small hms; show (Lib.join _ [32]).length ≤ _; omega⟩))
  refine g1 ?_
  refine awp_ret ?_
  refine fin_mk [] rfl rfl ?_ trivial (by decide)
  rfl



end Go.Proofs.YtoincpeodnmfmaaDoor.Abs
