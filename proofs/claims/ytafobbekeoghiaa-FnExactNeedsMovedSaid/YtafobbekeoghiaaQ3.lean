import Derived.Test.YtafobbekeoghiaaQ2
set_option linter.unusedVariables false
set_option linter.unusedSimpArgs false
namespace Go.Proofs.Ytafobbekeoghiaa.Abs
open Go Go.RowKit
noncomputable abbrev s_S_AddBook : Spec ((Int × List Pl) × Bk) where
  args := fun x => [rackD x.1, bkD x.2]
  pre := fun x => (isI16 x.1.1 ∧ ∀ b ∈ x.1.2, isPl b) ∧ x.1.2.length ≤ 1048576 ∧ isBk x.2
  new := fun x => [⟨58, 9, false, pls (addBookR (okR x.1.1 x.1.2) x.1.1 x.1.2 x.2).1.2⟩]
  res := fun x => .tup [.agg [.val (.int .i16 (addBookR (okR x.1.1 x.1.2) x.1.1 x.1.2 x.2).1.1), .own 0], .val (.int .i64 (addBookR (okR x.1.1 x.1.2) x.1.1 x.1.2 x.2).2.1), .val (.int .i64 (addBookR (okR x.1.1 x.1.2) x.1.1 x.1.2 x.2).2.2)]

set_option maxRecDepth 20000 in
set_option maxHeartbeats 4000000 in
theorem ok_S_AddBook : FnOk Pr 11 s_S_AddBook := by
  refine fn_ok 2 0 T0_ok Go.Proofs.Try.func11 rfl (enters_of Go.Proofs.Try.func11 rfl rfl) (fun _ => rfl) (fun _ => rfl) (fun _ => rfl) ?_
  rintro ⟨⟨p, xs⟩, b⟩ ⟨⟨hpp, hv⟩, hl, hbk⟩ C hP hN hm hG
  change awp C _ _ ⟨[(0, .agg [.val (.int .i16 p), .sl 9 (pls xs)]), (1, .val (.agg #[.int .i16 b.cls, .int .u8 b.m0, .int .u8 b.m1, .int .u8 b.m2, .int .i16 b.vol, .int .i16 b.wide, .int .i16 b.high, .int .i16 b.weight]))], [], 0⟩
  simp only at hpp hv hl hbk
  refine awp_seq ?_
  refine r1 T0_ok hP hm hN ?_
  refine g1 ?_
  refine g1 ?_
  refine g1 ?_
  refine g1 ?_
  refine g1 ?_
  refine awp_seq ?_
  refine awp_seq ?_
  refine r1 T0_ok hP hm hN ?_
  refine gc1 ?_ (call1 ok_S_l05Ok (_, _) [] (hpre := by (try dsimp only); exact ⟨⟨hpp, hv⟩, hl⟩))
  refine g1 ?_
  refine g1 ?_
  refine ggc1 ?_ (hs := by intro hb; simp +decide only [hb, gd_tt, gd_ff, beq_self_eq_true, Bool.true_and, beq_true]; exact ⟨rfl, _, call1 ok_S_l01Book (_, _, _, false, 0, b) [] (hpre := by (try dsimp only); exact ⟨rfl, hbk⟩), rfl, rfl, rfl⟩)
  refine gg1 ?_
  refine g1 ?_
  refine awp_cond rfl (fun hc0 => ?_) (fun hc0 => ?_)
  · skip
    have hr : addBookR (okR p xs) p xs b = ((0, []), 0, 1) := by rw [addBookR, if_pos hc0]
    refine awp_seq ?_
    refine r1 T0_ok hP hm hN ?_
    refine g1 ?_
    refine g1 ?_
    refine g1 ?_
    refine g1 ?_
    refine awp_weak (weak_nilO 2 0 1 58 9 rfl rfl rfl rfl) ?_
    refine awp_ret ?_
    refine fin_mk [3] rfl rfl ?_ (by simp only [hr]; exact objs_cons rfl rfl rfl rfl rfl (.inl rfl) objs_nil) (by decide)
    show D.tup [.agg [.val (.int .i16 (addBookR (okR p xs) p xs b).1.1), .own 3], .val (.int .i64 (addBookR (okR p xs) p xs b).2.1), .val (.int .i64 (addBookR (okR p xs) p xs b).2.2)] = _
    rw [hr]
    rfl
  · skip
    refine awp_skip ?_
    refine awp_seq ?_
    refine r1 T0_ok hP hm hN ?_
    refine gc1 ?_ (call1 ok_S_l05Added ((_, _), b) [] (hpre := by (try dsimp only); exact ⟨hl, ⟨hpp, hv⟩, hbk⟩))
    refine g1 ?_
    refine g1 ?_
    refine g1 ?_
    refine g1 ?_
    refine g1 ?_
    refine g1 ?_
    refine g1 ?_
    refine g1 ?_
    refine awp_seq ?_
    refine awp_seq ?_
    refine r1 T0_ok hP hm hN ?_
    refine g1 ?_
    refine g1 ?_
    refine awp_cond rfl (fun hc1 => ?_) (fun hc1 => ?_)
    · skip
      have hr : addBookR (okR p xs) p xs b = ((0, []), 0, 3) := by rw [addBookR, if_neg (by rw [hc0]; simp), if_pos hc1]
      refine awp_seq ?_
      refine r1 T0_ok hP hm hN ?_
      refine g1 ?_
      refine g1 ?_
      refine g1 ?_
      refine g1 ?_
      refine awp_weak (weak_nilO 2 0 1 58 9 rfl rfl rfl rfl) ?_
      refine awp_ret ?_
      refine fin_mk [5] rfl rfl ?_ (by simp only [hr]; exact objs_cons rfl rfl rfl rfl rfl (.inl rfl) objs_nil) (by decide)
      show D.tup [.agg [.val (.int .i16 (addBookR (okR p xs) p xs b).1.1), .own 5], .val (.int .i64 (addBookR (okR p xs) p xs b).2.1), .val (.int .i64 (addBookR (okR p xs) p xs b).2.2)] = _
      rw [hr]
      rfl
    · skip
      have hr : addBookR (okR p xs) p xs b = ((addR p xs b).1, (addR p xs b).2.1, 0) := by rw [addBookR, if_neg (by rw [hc0]; simp), if_neg (by rw [hc1]; simp)]
      refine awp_skip ?_
      refine awp_seq ?_
      refine r1 T0_ok hP hm hN ?_
      refine g1 ?_
      refine g1 ?_
      refine g1 ?_
      refine g1 ?_
      refine g1 ?_
      refine awp_ret ?_
      refine fin_mk [3] rfl rfl ?_ (by simp only [hr]; exact objs_cons rfl rfl rfl rfl rfl (.inl rfl) objs_nil) (by decide)
      show D.tup [.agg [.val (.int .i16 (addBookR (okR p xs) p xs b).1.1), .own 3], .val (.int .i64 (addBookR (okR p xs) p xs b).2.1), .val (.int .i64 (addBookR (okR p xs) p xs b).2.2)] = _
      rw [hr]
      rfl

noncomputable abbrev s_S_NeedsMoved : Spec ((Int × List Pl) × Bk) where
  args := fun x => [rackD x.1, bkD x.2]
  pre := fun x => (isI16 x.1.1 ∧ ∀ b ∈ x.1.2, isPl b) ∧ x.1.2.length ≤ 1048576 ∧ isBk x.2
  res := fun x => .tup [.val (.int .i64 (addBookR (okR x.1.1 x.1.2) x.1.1 x.1.2 x.2).2.1), .val (.int .i64 (addBookR (okR x.1.1 x.1.2) x.1.1 x.1.2 x.2).2.2)]

set_option maxRecDepth 20000 in
set_option maxHeartbeats 1000000 in
theorem ok_S_NeedsMoved : FnOk Pr 5 s_S_NeedsMoved := by
  refine fn_ok 2 0 T0_ok Go.Proofs.Try.func5 rfl (enters_of Go.Proofs.Try.func5 rfl rfl) (fun _ => rfl) (fun _ => rfl) (fun _ => rfl) ?_
  rintro ⟨⟨p, xs⟩, b⟩ ⟨⟨hpp, hv⟩, hl, hbk⟩ C hP hN hm hG
  change awp C _ _ ⟨[(0, .agg [.val (.int .i16 p), .sl 9 (pls xs)]), (1, .val (.agg #[.int .i16 b.cls, .int .u8 b.m0, .int .u8 b.m1, .int .u8 b.m2, .int .i16 b.vol, .int .i16 b.wide, .int .i16 b.high, .int .i16 b.weight]))], [], 0⟩
  simp only at hpp hv hl hbk
  refine awp_seq ?_
  refine r1 T0_ok hP hm hN ?_
  refine g1 ?_
  refine g1 ?_
  refine g1 ?_
  refine g1 ?_
  refine awp_seq ?_
  refine r1 T0_ok hP hm hN ?_
  refine g1 ?_
  refine g1 ?_
  refine gc1 ?_ (call1 ok_S_AddBook ((_, _), b) [] (hpre := by (try dsimp only); exact ⟨⟨hpp, hv⟩, hl, hbk⟩))
  refine g1 ?_
  refine g1 ?_
  refine g1 ?_
  refine g1 ?_
  refine g1 ?_
  refine g1 ?_
  refine g1 ?_
  refine g1 ?_
  refine awp_seq ?_
  refine r1 T0_ok hP hm hN ?_
  refine g1 ?_
  refine g1 ?_
  refine g1 ?_
  refine g1 ?_
  refine awp_ret ?_
  refine fin_mk [] rfl rfl ?_ trivial (by decide)
  rfl

noncomputable abbrev s_I_Rack_isFull : Spec (Int × List Pl) where
  args := fun x => [rackD x]
  pre := fun x => isI16 x.1 ∧ x.2.length ≤ 1048576
  res := fun x => .val (.bool ((x.2.length : Int) == x.1))

set_option maxRecDepth 20000 in
set_option maxHeartbeats 1000000 in
theorem ok_I_Rack_isFull : FnOk Pr 15 s_I_Rack_isFull := by
  refine fn_ok 1 0 T0_ok Go.Proofs.Try.func15 rfl (enters_of Go.Proofs.Try.func15 rfl rfl) (fun _ => rfl) (fun _ => rfl) (fun _ => rfl) ?_
  rintro ⟨p, xs⟩ ⟨hpp, hl⟩ C hP hN hm hG
  change awp C _ _ ⟨[(0, .agg [.val (.int .i16 p), .sl 9 (pls xs)])], [], 0⟩
  have hpp : -32768 ≤ p ∧ p ≤ 32767 := hpp
  simp only at hl
  refine awp_seq ?_
  refine r1 T0_ok hP hm hN ?_
  refine g1 ?_
  refine g1 ?_
  refine awp_seq ?_
  refine r1 T0_ok hP hm hN ?_
  refine g1 ?_
  refine g1 ?_
  refine g1 ?_
  refine g1 ?_
  refine g1 ?_
  refine g1 ?_
  refine g1 ?_
  refine g1 ?_
  refine awp_ret ?_
  refine fin_mk [] rfl rfl ?_ trivial (by decide)
  rfl

noncomputable abbrev s_I_row : Spec (List Bool × Int × Int) where
  args := fun x => [.sl 1 (boolD x.1), .val (.int .i64 x.2.1), .val (.int .i64 x.2.2)]
  pre := fun x => x.1.length ≤ 1048576 ∧ rowPre x.2.2 x.2.1 x.1.length
  res := fun x => .tup [.val (.int .i64 (rowB x.1 x.2.1 x.2.2).1), .val (.bool (rowB x.1 x.2.1 x.2.2).2)]

set_option maxRecDepth 20000 in
set_option maxHeartbeats 1000000 in
theorem ok_I_row : FnOk Pr 27 s_I_row := by
  refine fn_ok 3 0 T0_ok Go.Proofs.Try.func27 rfl (enters_of Go.Proofs.Try.func27 rfl rfl) (fun _ => rfl) (fun _ => rfl) (fun _ => rfl) ?_
  rintro ⟨bs, a, y⟩ ⟨hl, hy⟩ C hP hN hm hG
  change awp C _ _ ⟨[(0, .sl 1 (boolD bs)), (1, .val (.int .i64 a)), (2, .val (.int .i64 y))], [], 0⟩
  simp only at hl hy
  have hy2 : -1 ≤ y ∧ y ≤ 1 ∧ -1 ≤ a ∧ a ≤ 1048576 := by omega
  refine awp_seq ?_
  refine r1 T0_ok hP hm hN ?_
  refine g1 ?_
  refine g1 ?_
  refine awp_seq ?_
  refine r1 T0_ok hP hm hN ?_
  refine g1 ?_
  refine awp_seq ?_
  refine awp_block ?_
  refine awp_loop (fun n st => ∃ (m : Nat) (c : Int), m ≤ (fuelB y a bs.length) ∧ rowB bs a y = rowG (fun m => bs.getD (posB y a (m : Int)).toNat false) ((fuelB y a bs.length) - m) m ∧ c = posB y a m ∧ n = (fuelB y a bs.length) - m ∧ st = ⟨[(8, .val (.int .i64 (m : Nat))), (1, .val (.int .i64 c)), (2, .val (.int .i64 y)), (0, .sl 1 (boolD bs))], [], 0⟩) (fuelB y a bs.length) ⟨_, weak_sl (sub_cons rfl (sub_cons rfl (sub_cons rfl (sub_cons rfl (sub_nil))))), 0, a, Nat.zero_le _, rfl, row_zero.symm, rfl, rfl⟩ ?_
  rintro n st ⟨m, c, hm1, hro, hcp, hn, rfl⟩
  have hrg := row_rng (m := m) hy
  have hfu : (fuelB y a bs.length) ≤ 1048577 := by unfold fuelB; split <;> omega
  refine awp_seq ?_
  refine awp_seq ?_
  refine r1 T0_ok hP hm hN ?_
  refine g1 ?_
  refine g1 ?_
  refine g1 ?_
  refine g1 ?_
  refine gc1 ?_ (call1 ok_I_within_int64 (_, _, _) [])
  refine awp_cond rfl (fun hc0 => ?_) (fun hc0 => ?_)
  · skip
    have hin := inI_iff.1 hc0
    have hlt : m < (fuelB y a bs.length) := hrg.1 (by rw [← hcp]; exact hin)
    refine awp_skip ?_
    refine awp_seq ?_
    refine awp_block ?_
    refine awp_seq ?_
    refine awp_seq ?_
    refine r1 T0_ok hP hm hN ?_
    refine g1 ?_
    refine g1 ?_
    refine g1 ?_
    refine g1 ?_
    refine g1 ?_
    refine awp_cond rfl (fun hc1 => ?_) (fun hc1 => ?_)
    · skip
      have htk : ¬ bs.getD (posB y a (m : Int)).toNat false = true := by rw [← hcp]; simpa using hc1
      refine awp_seq ?_
      refine r1 T0_ok hP hm hN ?_
      refine g1 ?_
      refine g1 ?_
      refine g1 ?_
      refine awp_ret ?_
      refine fin_mk [] rfl rfl ?_ trivial (by decide)
      show D.tup [.val (.int .i64 (rowB bs a y).1), .val (.bool (rowB bs a y).2)] = _
      rw [hro, rowG_step hlt, if_neg htk]
      rfl
    · skip
      have htk : bs.getD (posB y a (m : Int)).toNat false = true := by rw [← hcp]; simpa using hc1
      refine awp_skip ?_
      refine r1 T0_ok hP hm hN ?_
      refine g1 ?_
      refine g1 ?_
      refine g1 ?_
      refine r1 T0_ok hP hm hN ?_
      refine g1 ?_
      refine g1 ?_
      refine g1 ?_
      refine g1 ?_
      exact ⟨_, _, by omega, weak_sl (sub_cons rfl (sub_cons rfl (sub_cons rfl (sub_cons rfl (sub_nil))))), m + 1, c + y, by omega, by rw [hro, rowG_step hlt, if_pos htk], by rw [hcp, row_suc hy], rfl, rfl⟩
  · skip
    have hge : ¬ m < (fuelB y a bs.length) := fun h => by
      have h2 := hrg.2 h
      rw [← hcp] at h2
      rw [inI_iff.2 h2] at hc0; cases hc0
    have hmf : m = (fuelB y a bs.length) := by omega
    refine awp_exit ?_
    repeat refine thenA_exit ?_
    refine blockA_hit ?_
    refine awp_seq ?_
    refine r1 T0_ok hP hm hN ?_
    refine g1 ?_
    refine g1 ?_
    refine g1 ?_
    refine awp_ret ?_
    refine fin_mk [] rfl rfl ?_ trivial (by decide)
    show D.tup [.val (.int .i64 (rowB bs a y).1), .val (.bool (rowB bs a y).2)] = _
    rw [hro, hmf, Nat.sub_self, rowG]
    rfl

theorem roomR_in {p : Int} {xs : List Pl} (hp : 1 ≤ p) (ha : atsOk p xs) {k : Int} (h0 : 0 ≤ k) (hk : k ≤ xs.length) : 0 ≤ (roomR p xs k).1 ∧ (roomR p xs k).1 ≤ p := by
  simp only [roomR]
  by_cases e1 : k > 0
  · have := ha _ (getD_mem' (d := pl0) (show (k - 1).toNat < xs.length by omega))
    rw [if_pos e1]; omega
  · rw [if_neg e1]; omega
theorem push_eq (p : Int) (xs : List Pl) (hp : 0 ≤ p) {k : Int} (h : 0 ≤ k) : pushG xs.length p (atX xs) (tkZ p xs) k.toNat = if decide ((roomR p xs k).2 > 0) then (0, false) else if (rowB (takenF p.toNat xs xs.length) ((roomR p xs k).1 - 1) (-1)).2 && (!(rowB (takenF p.toNat xs xs.length) (roomR p xs k).1 1).2 || decide ((rowB (takenF p.toNat xs xs.length) ((roomR p xs k).1 - 1) (-1)).1 ≤ (rowB (takenF p.toNat xs xs.length) (roomR p xs k).1 1).1)) then ((rowB (takenF p.toNat xs xs.length) ((roomR p xs k).1 - 1) (-1)).1, true) else ((rowB (takenF p.toNat xs xs.length) (roomR p xs k).1 1).1, false) := by
  rw [pushG, rowL p xs h, rowR p hp xs h, room_G p xs k h]

noncomputable abbrev s_I_Rack_pushed : Spec ((Int × List Pl) × Int) where
  args := fun x => [rackD x.1, .val (.int .i64 x.2)]
  pre := fun x => x.1.2.length ≤ 1048576 ∧ (isI16 x.1.1 ∧ ∀ b ∈ x.1.2, isPl b) ∧ (1 ≤ x.1.1 ∧ x.1.1 ≤ 60) ∧ atsOk x.1.1 x.1.2 ∧ 0 ≤ x.2 ∧ x.2 ≤ x.1.2.length
  res := fun x => .tup [.val (.int .i64 (pushG x.1.2.length x.1.1 (atX x.1.2) (tkZ x.1.1 x.1.2) x.2.toNat).1), .val (.bool (pushG x.1.2.length x.1.1 (atX x.1.2) (tkZ x.1.1 x.1.2) x.2.toNat).2)]

set_option maxRecDepth 20000 in
set_option maxHeartbeats 1000000 in
theorem ok_I_Rack_pushed : FnOk Pr 16 s_I_Rack_pushed := by
  refine fn_ok 2 0 T0_ok Go.Proofs.Try.func16 rfl (enters_of Go.Proofs.Try.func16 rfl rfl) (fun _ => rfl) (fun _ => rfl) (fun _ => rfl) ?_
  rintro ⟨⟨p, xs⟩, k⟩ ⟨hl, ⟨hpp, hv⟩, hp1, ha, hk0, hk⟩ C hP hN hm hG
  change awp C _ _ ⟨[(0, .agg [.val (.int .i16 p), .sl 9 (pls xs)]), (1, .val (.int .i64 k))], [], 0⟩
  simp only at hl hpp hv hp1 ha hk0 hk
  have hfr := roomR_in hp1.1 ha hk0 hk
  have hpe := push_eq p xs (by omega) hk0
  have htl := takenF_len p.toNat xs xs.length
  refine awp_seq ?_
  refine r1 T0_ok hP hm hN ?_
  refine g1 ?_
  refine g1 ?_
  refine g1 ?_
  refine awp_seq ?_
  refine r1 T0_ok hP hm hN ?_
  refine g1 ?_
  refine g1 ?_
  refine gc1 ?_ (call1 ok_I_Rack_room ((_, _), _) [] (hpre := by (try dsimp only); exact ⟨hl, ⟨hpp, hv⟩, hk0, hk⟩))
  refine g1 ?_
  refine g1 ?_
  refine g1 ?_
  refine g1 ?_
  refine g1 ?_
  refine awp_seq ?_
  refine awp_seq ?_
  refine r1 T0_ok hP hm hN ?_
  refine g1 ?_
  refine g1 ?_
  refine awp_cond rfl (fun hc0 => ?_) (fun hc0 => ?_)
  · skip
    have hr : (pushG xs.length p (atX xs) (tkZ p xs) k.toNat) = (0, false) := by rw [hpe, if_pos hc0]
    refine awp_seq ?_
    refine r1 T0_ok hP hm hN ?_
    refine g1 ?_
    refine g1 ?_
    refine awp_ret ?_
    refine fin_mk [] rfl rfl ?_ trivial (by decide)
    show D.tup [.val (.int .i64 (pushG xs.length p (atX xs) (tkZ p xs) k.toNat).1), .val (.bool (pushG xs.length p (atX xs) (tkZ p xs) k.toNat).2)] = _
    rw [hr]
    rfl
  · skip
    refine awp_skip ?_
    refine awp_seq ?_
    refine r1 T0_ok hP hm hN ?_
    refine g1 ?_
    refine gc1 ?_ (call1 ok_I_Rack_taken (_, _) [] (hpre := by (try dsimp only); exact ⟨hl, hp1, ha⟩))
    refine g1 ?_
    refine awp_seq ?_
    refine r1 T0_ok hP hm hN ?_
    refine g1 ?_
    refine g1 ?_
    refine g1 ?_
    refine gc1 ?_ (call1 ok_I_row ((takenF p.toNat xs xs.length), (roomR p xs k).1 - 1, -1) [] (hpre := by (try dsimp only); exact ⟨by omega, .inr ⟨rfl, by omega, by omega⟩⟩))
    refine g1 ?_
    refine g1 ?_
    refine g1 ?_
    refine g1 ?_
    refine g1 ?_
    refine awp_seq ?_
    refine r1 T0_ok hP hm hN ?_
    refine g1 ?_
    refine g1 ?_
    refine gc1 ?_ (call1 ok_I_row ((takenF p.toNat xs xs.length), (roomR p xs k).1, 1) [] (hpre := by (try dsimp only); exact ⟨by omega, .inl ⟨rfl, by omega, by omega⟩⟩))
    refine g1 ?_
    refine g1 ?_
    refine g1 ?_
    refine g1 ?_
    refine g1 ?_
    refine awp_seq ?_
    refine awp_seq ?_
    refine r1 T0_ok hP hm hN ?_
    refine g1 ?_
    refine g1 ?_
    cases hs0 : (rowB (takenF p.toNat xs xs.length) ((roomR p xs k).1 - 1) (-1)).2
    · skip
      first | refine areg_not rfl rfl (by simp +decide (disch := omega) only [nrm, lk_nrm, dc_nrm, mk_nrm, mf_nrm, ti_nrm, ls_nrm, mp_nrm, nb_nrm, hset, pick_and, pick_or, ↓reduceIte, Nat.reduceAdd, wI64, wI32, wI16, wI8, wU8, List.length_map, Int.toNat_natCast]; rfl) ?_ | refine areg_notU rfl rfl (by simp +decide (disch := omega) only [nrm, lk_nrm, dc_nrm, mk_nrm, mf_nrm, ti_nrm, ls_nrm, mp_nrm, nb_nrm, hset, pick_and, pick_or, ↓reduceIte, Nat.reduceAdd, wI64, wI32, wI16, wI8, wU8, List.length_map, Int.toNat_natCast]; rfl) ?_
      first | refine areg_not rfl rfl (by simp +decide (disch := omega) only [nrm, lk_nrm, dc_nrm, mk_nrm, mf_nrm, ti_nrm, ls_nrm, mp_nrm, nb_nrm, hset, pick_and, pick_or, ↓reduceIte, Nat.reduceAdd, wI64, wI32, wI16, wI8, wU8, List.length_map, Int.toNat_natCast]; rfl) ?_ | refine areg_notU rfl rfl (by simp +decide (disch := omega) only [nrm, lk_nrm, dc_nrm, mk_nrm, mf_nrm, ti_nrm, ls_nrm, mp_nrm, nb_nrm, hset, pick_and, pick_or, ↓reduceIte, Nat.reduceAdd, wI64, wI32, wI16, wI8, wU8, List.length_map, Int.toNat_natCast]; rfl) ?_
      first | refine areg_not rfl rfl (by simp +decide (disch := omega) only [nrm, lk_nrm, dc_nrm, mk_nrm, mf_nrm, ti_nrm, ls_nrm, mp_nrm, nb_nrm, hset, pick_and, pick_or, ↓reduceIte, Nat.reduceAdd, wI64, wI32, wI16, wI8, wU8, List.length_map, Int.toNat_natCast]; rfl) ?_ | refine areg_notU rfl rfl (by simp +decide (disch := omega) only [nrm, lk_nrm, dc_nrm, mk_nrm, mf_nrm, ti_nrm, ls_nrm, mp_nrm, nb_nrm, hset, pick_and, pick_or, ↓reduceIte, Nat.reduceAdd, wI64, wI32, wI16, wI8, wU8, List.length_map, Int.toNat_natCast]; rfl) ?_
      first | refine areg_not rfl rfl (by simp +decide (disch := omega) only [nrm, lk_nrm, dc_nrm, mk_nrm, mf_nrm, ti_nrm, ls_nrm, mp_nrm, nb_nrm, hset, pick_and, pick_or, ↓reduceIte, Nat.reduceAdd, wI64, wI32, wI16, wI8, wU8, List.length_map, Int.toNat_natCast]; rfl) ?_ | refine areg_notU rfl rfl (by simp +decide (disch := omega) only [nrm, lk_nrm, dc_nrm, mk_nrm, mf_nrm, ti_nrm, ls_nrm, mp_nrm, nb_nrm, hset, pick_and, pick_or, ↓reduceIte, Nat.reduceAdd, wI64, wI32, wI16, wI8, wU8, List.length_map, Int.toNat_natCast]; rfl) ?_
      first | refine areg_not rfl rfl (by simp +decide (disch := omega) only [nrm, lk_nrm, dc_nrm, mk_nrm, mf_nrm, ti_nrm, ls_nrm, mp_nrm, nb_nrm, hset, pick_and, pick_or, ↓reduceIte, Nat.reduceAdd, wI64, wI32, wI16, wI8, wU8, List.length_map, Int.toNat_natCast]; rfl) ?_ | refine areg_notU rfl rfl (by simp +decide (disch := omega) only [nrm, lk_nrm, dc_nrm, mk_nrm, mf_nrm, ti_nrm, ls_nrm, mp_nrm, nb_nrm, hset, pick_and, pick_or, ↓reduceIte, Nat.reduceAdd, wI64, wI32, wI16, wI8, wU8, List.length_map, Int.toNat_natCast]; rfl) ?_
      first | refine areg_not rfl rfl (by simp +decide (disch := omega) only [nrm, lk_nrm, dc_nrm, mk_nrm, mf_nrm, ti_nrm, ls_nrm, mp_nrm, nb_nrm, hset, pick_and, pick_or, ↓reduceIte, Nat.reduceAdd, wI64, wI32, wI16, wI8, wU8, List.length_map, Int.toNat_natCast]; rfl) ?_ | refine areg_notU rfl rfl (by simp +decide (disch := omega) only [nrm, lk_nrm, dc_nrm, mk_nrm, mf_nrm, ti_nrm, ls_nrm, mp_nrm, nb_nrm, hset, pick_and, pick_or, ↓reduceIte, Nat.reduceAdd, wI64, wI32, wI16, wI8, wU8, List.length_map, Int.toNat_natCast]; rfl) ?_
      first | refine areg_not rfl rfl (by simp +decide (disch := omega) only [nrm, lk_nrm, dc_nrm, mk_nrm, mf_nrm, ti_nrm, ls_nrm, mp_nrm, nb_nrm, hset, pick_and, pick_or, ↓reduceIte, Nat.reduceAdd, wI64, wI32, wI16, wI8, wU8, List.length_map, Int.toNat_natCast]; rfl) ?_ | refine areg_notU rfl rfl (by simp +decide (disch := omega) only [nrm, lk_nrm, dc_nrm, mk_nrm, mf_nrm, ti_nrm, ls_nrm, mp_nrm, nb_nrm, hset, pick_and, pick_or, ↓reduceIte, Nat.reduceAdd, wI64, wI32, wI16, wI8, wU8, List.length_map, Int.toNat_natCast]; rfl) ?_
      refine g1 ?_
      refine awp_cond rfl (fun h45 => ?_) (fun h45 => ?_)
      · skip
        have h2 : ((rowB (takenF p.toNat xs xs.length) ((roomR p xs k).1 - 1) (-1)).2 && (!(rowB (takenF p.toNat xs xs.length) (roomR p xs k).1 1).2 || decide ((rowB (takenF p.toNat xs xs.length) ((roomR p xs k).1 - 1) (-1)).1 ≤ (rowB (takenF p.toNat xs xs.length) (roomR p xs k).1 1).1))) = true := by first | (rw [hs0, hs1]; exact h45) | (rw [hs0]; exact h45)
        have hr : (pushG xs.length p (atX xs) (tkZ p xs) k.toNat) = ((rowB (takenF p.toNat xs xs.length) ((roomR p xs k).1 - 1) (-1)).1, true) := by rw [hpe, if_neg (by rw [hc0]; simp), if_pos h2]
        refine awp_seq ?_
        refine r1 T0_ok hP hm hN ?_
        refine g1 ?_
        refine g1 ?_
        refine g1 ?_
        refine awp_ret ?_
        refine fin_mk [] rfl rfl ?_ trivial (by decide)
        show D.tup [.val (.int .i64 (pushG xs.length p (atX xs) (tkZ p xs) k.toNat).1), .val (.bool (pushG xs.length p (atX xs) (tkZ p xs) k.toNat).2)] = _
        rw [hr]
        rfl
      · skip
        have h2 : ((rowB (takenF p.toNat xs xs.length) ((roomR p xs k).1 - 1) (-1)).2 && (!(rowB (takenF p.toNat xs xs.length) (roomR p xs k).1 1).2 || decide ((rowB (takenF p.toNat xs xs.length) ((roomR p xs k).1 - 1) (-1)).1 ≤ (rowB (takenF p.toNat xs xs.length) (roomR p xs k).1 1).1))) = false := by first | (rw [hs0, hs1]; exact h45) | (rw [hs0]; exact h45)
        have hr : (pushG xs.length p (atX xs) (tkZ p xs) k.toNat) = ((rowB (takenF p.toNat xs xs.length) (roomR p xs k).1 1).1, false) := by rw [hpe, if_neg (by rw [hc0]; simp), if_neg (by rw [h2]; simp)]
        refine awp_skip ?_
        refine awp_seq ?_
        refine r1 T0_ok hP hm hN ?_
        refine g1 ?_
        refine g1 ?_
        refine g1 ?_
        refine awp_ret ?_
        refine fin_mk [] rfl rfl ?_ trivial (by decide)
        show D.tup [.val (.int .i64 (pushG xs.length p (atX xs) (tkZ p xs) k.toNat).1), .val (.bool (pushG xs.length p (atX xs) (tkZ p xs) k.toNat).2)] = _
        rw [hr]
        rfl
    · skip
      refine gy1 ?_
      refine gy1 ?_
      refine gy1 ?_
      cases hs1 : (!(rowB (takenF p.toNat xs xs.length) (roomR p xs k).1 1).2)
      · skip
        refine gy1 ?_
        refine gy1 ?_
        refine gy1 ?_
        refine gy1 ?_
        refine g1 ?_
        refine awp_cond rfl (fun h45 => ?_) (fun h45 => ?_)
        · skip
          have h2 : ((rowB (takenF p.toNat xs xs.length) ((roomR p xs k).1 - 1) (-1)).2 && (!(rowB (takenF p.toNat xs xs.length) (roomR p xs k).1 1).2 || decide ((rowB (takenF p.toNat xs xs.length) ((roomR p xs k).1 - 1) (-1)).1 ≤ (rowB (takenF p.toNat xs xs.length) (roomR p xs k).1 1).1))) = true := by first | (rw [hs0, hs1]; exact h45) | (rw [hs0]; exact h45)
          have hr : (pushG xs.length p (atX xs) (tkZ p xs) k.toNat) = ((rowB (takenF p.toNat xs xs.length) ((roomR p xs k).1 - 1) (-1)).1, true) := by rw [hpe, if_neg (by rw [hc0]; simp), if_pos h2]
          refine awp_seq ?_
          refine r1 T0_ok hP hm hN ?_
          refine g1 ?_
          refine g1 ?_
          refine g1 ?_
          refine awp_ret ?_
          refine fin_mk [] rfl rfl ?_ trivial (by decide)
          show D.tup [.val (.int .i64 (pushG xs.length p (atX xs) (tkZ p xs) k.toNat).1), .val (.bool (pushG xs.length p (atX xs) (tkZ p xs) k.toNat).2)] = _
          rw [hr]
          rfl
        · skip
          have h2 : ((rowB (takenF p.toNat xs xs.length) ((roomR p xs k).1 - 1) (-1)).2 && (!(rowB (takenF p.toNat xs xs.length) (roomR p xs k).1 1).2 || decide ((rowB (takenF p.toNat xs xs.length) ((roomR p xs k).1 - 1) (-1)).1 ≤ (rowB (takenF p.toNat xs xs.length) (roomR p xs k).1 1).1))) = false := by first | (rw [hs0, hs1]; exact h45) | (rw [hs0]; exact h45)
          have hr : (pushG xs.length p (atX xs) (tkZ p xs) k.toNat) = ((rowB (takenF p.toNat xs xs.length) (roomR p xs k).1 1).1, false) := by rw [hpe, if_neg (by rw [hc0]; simp), if_neg (by rw [h2]; simp)]
          refine awp_skip ?_
          refine awp_seq ?_
          refine r1 T0_ok hP hm hN ?_
          refine g1 ?_
          refine g1 ?_
          refine g1 ?_
          refine awp_ret ?_
          refine fin_mk [] rfl rfl ?_ trivial (by decide)
          show D.tup [.val (.int .i64 (pushG xs.length p (atX xs) (tkZ p xs) k.toNat).1), .val (.bool (pushG xs.length p (atX xs) (tkZ p xs) k.toNat).2)] = _
          rw [hr]
          rfl
      · skip
        first | refine areg_not rfl rfl (by simp +decide (disch := omega) only [nrm, lk_nrm, dc_nrm, mk_nrm, mf_nrm, ti_nrm, ls_nrm, mp_nrm, nb_nrm, hset, pick_and, pick_or, ↓reduceIte, Nat.reduceAdd, wI64, wI32, wI16, wI8, wU8, List.length_map, Int.toNat_natCast]; rfl) ?_ | refine areg_notU rfl rfl (by simp +decide (disch := omega) only [nrm, lk_nrm, dc_nrm, mk_nrm, mf_nrm, ti_nrm, ls_nrm, mp_nrm, nb_nrm, hset, pick_and, pick_or, ↓reduceIte, Nat.reduceAdd, wI64, wI32, wI16, wI8, wU8, List.length_map, Int.toNat_natCast]; rfl) ?_
        first | refine areg_not rfl rfl (by simp +decide (disch := omega) only [nrm, lk_nrm, dc_nrm, mk_nrm, mf_nrm, ti_nrm, ls_nrm, mp_nrm, nb_nrm, hset, pick_and, pick_or, ↓reduceIte, Nat.reduceAdd, wI64, wI32, wI16, wI8, wU8, List.length_map, Int.toNat_natCast]; rfl) ?_ | refine areg_notU rfl rfl (by simp +decide (disch := omega) only [nrm, lk_nrm, dc_nrm, mk_nrm, mf_nrm, ti_nrm, ls_nrm, mp_nrm, nb_nrm, hset, pick_and, pick_or, ↓reduceIte, Nat.reduceAdd, wI64, wI32, wI16, wI8, wU8, List.length_map, Int.toNat_natCast]; rfl) ?_
        first | refine areg_not rfl rfl (by simp +decide (disch := omega) only [nrm, lk_nrm, dc_nrm, mk_nrm, mf_nrm, ti_nrm, ls_nrm, mp_nrm, nb_nrm, hset, pick_and, pick_or, ↓reduceIte, Nat.reduceAdd, wI64, wI32, wI16, wI8, wU8, List.length_map, Int.toNat_natCast]; rfl) ?_ | refine areg_notU rfl rfl (by simp +decide (disch := omega) only [nrm, lk_nrm, dc_nrm, mk_nrm, mf_nrm, ti_nrm, ls_nrm, mp_nrm, nb_nrm, hset, pick_and, pick_or, ↓reduceIte, Nat.reduceAdd, wI64, wI32, wI16, wI8, wU8, List.length_map, Int.toNat_natCast]; rfl) ?_
        refine gy1 ?_
        refine g1 ?_
        refine awp_cond rfl (fun h45 => ?_) (fun h45 => ?_)
        · skip
          have h2 : ((rowB (takenF p.toNat xs xs.length) ((roomR p xs k).1 - 1) (-1)).2 && (!(rowB (takenF p.toNat xs xs.length) (roomR p xs k).1 1).2 || decide ((rowB (takenF p.toNat xs xs.length) ((roomR p xs k).1 - 1) (-1)).1 ≤ (rowB (takenF p.toNat xs xs.length) (roomR p xs k).1 1).1))) = true := by first | (rw [hs0, hs1]; exact h45) | (rw [hs0]; exact h45)
          have hr : (pushG xs.length p (atX xs) (tkZ p xs) k.toNat) = ((rowB (takenF p.toNat xs xs.length) ((roomR p xs k).1 - 1) (-1)).1, true) := by rw [hpe, if_neg (by rw [hc0]; simp), if_pos h2]
          refine awp_seq ?_
          refine r1 T0_ok hP hm hN ?_
          refine g1 ?_
          refine g1 ?_
          refine g1 ?_
          refine awp_ret ?_
          refine fin_mk [] rfl rfl ?_ trivial (by decide)
          show D.tup [.val (.int .i64 (pushG xs.length p (atX xs) (tkZ p xs) k.toNat).1), .val (.bool (pushG xs.length p (atX xs) (tkZ p xs) k.toNat).2)] = _
          rw [hr]
          rfl
        · skip
          have h2 : ((rowB (takenF p.toNat xs xs.length) ((roomR p xs k).1 - 1) (-1)).2 && (!(rowB (takenF p.toNat xs xs.length) (roomR p xs k).1 1).2 || decide ((rowB (takenF p.toNat xs xs.length) ((roomR p xs k).1 - 1) (-1)).1 ≤ (rowB (takenF p.toNat xs xs.length) (roomR p xs k).1 1).1))) = false := by first | (rw [hs0, hs1]; exact h45) | (rw [hs0]; exact h45)
          have hr : (pushG xs.length p (atX xs) (tkZ p xs) k.toNat) = ((rowB (takenF p.toNat xs xs.length) (roomR p xs k).1 1).1, false) := by rw [hpe, if_neg (by rw [hc0]; simp), if_neg (by rw [h2]; simp)]
          refine awp_skip ?_
          refine awp_seq ?_
          refine r1 T0_ok hP hm hN ?_
          refine g1 ?_
          refine g1 ?_
          refine g1 ?_
          refine awp_ret ?_
          refine fin_mk [] rfl rfl ?_ trivial (by decide)
          show D.tup [.val (.int .i64 (pushG xs.length p (atX xs) (tkZ p xs) k.toNat).1), .val (.bool (pushG xs.length p (atX xs) (tkZ p xs) k.toNat).2)] = _
          rw [hr]
          rfl

noncomputable abbrev s_I_NeedsMoved : Spec ((Int × List Pl) × Bk) where
  args := fun x => [rackD x.1, bkD x.2]
  pre := fun x => (isI16 x.1.1 ∧ ∀ b ∈ x.1.2, isPl b) ∧ x.1.2.length ≤ 1048576 ∧ isBk x.2
  res := fun x => .tup [.val (.int .i64 (needI (validR x.1.1 x.1.2) x.1.1 x.1.2 x.2).1), .val (.int .i64 (needI (validR x.1.1 x.1.2) x.1.1 x.1.2 x.2).2)]

set_option maxRecDepth 20000 in
set_option maxHeartbeats 4000000 in
theorem ok_I_NeedsMoved : FnOk Pr 8 s_I_NeedsMoved := by
  refine fn_ok 2 0 T0_ok Go.Proofs.Try.func8 rfl (enters_of Go.Proofs.Try.func8 rfl rfl) (fun _ => rfl) (fun _ => rfl) (fun _ => rfl) ?_
  rintro ⟨⟨p, xs⟩, b⟩ ⟨⟨hpp, hv⟩, hl, hbk⟩ C hP hN hm hG
  change awp C _ _ ⟨[(0, .agg [.val (.int .i16 p), .sl 9 (pls xs)]), (1, .val (.agg #[.int .i16 b.cls, .int .u8 b.m0, .int .u8 b.m1, .int .u8 b.m2, .int .i16 b.vol, .int .i16 b.wide, .int .i16 b.high, .int .i16 b.weight]))], [], 0⟩
  simp only at hpp hv hl hbk
  have hfl := fstOf_lt (aboveP b) xs
  refine awp_seq ?_
  refine r1 T0_ok hP hm hN ?_
  refine g1 ?_
  refine g1 ?_
  refine g1 ?_
  refine g1 ?_
  refine awp_seq ?_
  refine awp_seq ?_
  refine r1 T0_ok hP hm hN ?_
  refine g1 ?_
  refine g1 ?_
  refine gc1 ?_ (call1 ok_I_rackCode ((_, _), _) [] (hpre := by (try dsimp only); exact ⟨hv, hl⟩))
  refine g1 ?_
  refine awp_seq ?_
  refine r1 T0_ok hP hm hN ?_
  refine g1 ?_
  refine g1 ?_
  refine awp_cond rfl (fun hc0 => ?_) (fun hc0 => ?_)
  · skip
    have hcc : (!validR p xs || !validB b) = true := by revert hc0; cases (!validR p xs || !validB b) <;> simp
    simp only [hcc, if_true]
    have hr : needI (validR p xs) p xs b = (0, 1) := by rw [needI, if_pos hcc]
    refine awp_seq ?_
    refine r1 T0_ok hP hm hN ?_
    refine g1 ?_
    refine g1 ?_
    refine g1 ?_
    refine awp_ret ?_
    refine fin_mk [] rfl rfl ?_ trivial (by decide)
    show D.tup [.val (.int .i64 (needI (validR p xs) p xs b).1), .val (.int .i64 (needI (validR p xs) p xs b).2)] = _
    rw [hr]
    rfl
  · skip
    have hcc : (!validR p xs || !validB b) = false := by revert hc0; cases (!validR p xs || !validB b) <;> simp
    have hok : validR p xs = true := by revert hcc; cases validR p xs <;> simp
    obtain ⟨hpv, hat⟩ := validR_ats hok
    refine awp_skip ?_
    refine awp_seq ?_
    refine awp_seq ?_
    refine r1 T0_ok hP hm hN ?_
    refine g1 ?_
    refine gc1 ?_ (call1 ok_I_Rack_isFull (_, _) [] (hpre := by (try dsimp only); exact ⟨hpp, hl⟩))
    refine awp_cond rfl (fun hc1 => ?_) (fun hc1 => ?_)
    · skip
      have hr : needI (validR p xs) p xs b = (0, 3) := by rw [needI, if_neg (by rw [hcc]; simp), if_pos hc1]
      refine awp_seq ?_
      refine r1 T0_ok hP hm hN ?_
      refine g1 ?_
      refine g1 ?_
      refine awp_ret ?_
      refine fin_mk [] rfl rfl ?_ trivial (by decide)
      show D.tup [.val (.int .i64 (needI (validR p xs) p xs b).1), .val (.int .i64 (needI (validR p xs) p xs b).2)] = _
      rw [hr]
      rfl
    · skip
      have hr : needI (validR p xs) p xs b = ((pushG xs.length p (atX xs) (tkZ p xs) (fstOf (aboveP b) xs).toNat).1, 0) := by rw [needI, if_neg (by rw [hcc]; simp), if_neg (by rw [hc1]; simp)]
      refine awp_skip ?_
      refine awp_seq ?_
      refine awp_draw T0_ok hP hm hN Pr_mix [0, 1, 2, 3, 4, 5, 6, 7, 8, 9, 10, 11] [3, 4] _ rfl (by rfl) ?_
      refine d1 T0_ok ?_
      refine d1 T0_ok ?_
      refine d1 T0_ok ?_
      refine dp1 ?_ (call1 ok_I_Rack_index ((_, _), b) [] (hpre := by (try dsimp only); exact hl))
      refine dp1 ?_ (call1 ok_I_Rack_pushed ((_, _), fstOf (aboveP b) xs) [] (hpre := by (try dsimp only); exact ⟨hl, ⟨hpp, hv⟩, hpv, hat, hfl.1, hfl.2⟩))
      refine d1 T0_ok ?_
      refine d1 T0_ok ?_
      refine d1 T0_ok ?_
      refine d1 T0_ok ?_
      refine d1 T0_ok ?_
      refine dreg_nil ?_
      refine awp_seq ?_
      refine r1 T0_ok hP hm hN ?_
      refine g1 ?_
      refine g1 ?_
      refine g1 ?_
      refine awp_ret ?_
      refine fin_mk [] rfl rfl ?_ trivial (by decide)
      show D.tup [.val (.int .i64 (needI (validR p xs) p xs b).1), .val (.int .i64 (needI (validR p xs) p xs b).2)] = _
      rw [hr]
      rfl

noncomputable abbrev s_L_FnExactNeedsMoved : Spec ((Int × List Pl) × Bk) where
  args := fun x => [.agg [.val (.int .i16 x.1.1), .sl 9 (pls x.1.2)], bkD x.2]
  pre := fun x => (isI16 x.1.1 ∧ (∀ b ∈ x.1.2, isPl b) ∧ x.1.2.length ≤ 9223372036854775807) ∧ isBk x.2
  res := fun x => .val (.bool true)

set_option maxRecDepth 20000 in
set_option maxHeartbeats 4000000 in
theorem ok_L_FnExactNeedsMoved : FnOk Pr 3 s_L_FnExactNeedsMoved := by
  refine fn_ok 2 0 T0_ok Go.Proofs.Try.func3 rfl (enters_of Go.Proofs.Try.func3 rfl rfl) (fun _ => rfl) (fun _ => rfl) (fun _ => rfl) ?_
  rintro ⟨⟨p, xs⟩, b⟩ ⟨⟨hpp, hv, hl0⟩, hbk⟩ C hP hN hm hG
  change awp C _ _ ⟨[(0, .agg [.val (.int .i16 p), .sl 9 (pls xs)]), (1, .val (.agg #[.int .i16 b.cls, .int .u8 b.m0, .int .u8 b.m1, .int .u8 b.m2, .int .i16 b.vol, .int .i16 b.wide, .int .i16 b.high, .int .i16 b.weight]))], [], 0⟩
  simp only at hv hl0
  refine awp_seq ?_
  refine r1 T0_ok hP hm hN ?_
  refine g1 ?_
  refine g1 ?_
  refine g1 ?_
  refine awp_seq ?_
  refine r1 T0_ok hP hm hN ?_
  refine g1 ?_
  refine awp_seq ?_
  refine r1 T0_ok hP hm hN ?_
  refine g1 ?_
  refine g1 ?_
  refine gc1 ?_ (call1 ok_L_szRack ((_, _), _) [] (hpre := by (try dsimp only); exact ⟨by assumption, by omega, by omega⟩))
  refine g1 ?_
  refine awp_seq ?_
  refine awp_seq ?_
  refine r1 T0_ok hP hm hN ?_
  refine g1 ?_
  refine g1 ?_
  refine awp_cond rfl (fun hc0 => ?_) (fun hc0 => ?_)
  · skip
    refine awp_seq ?_
    refine r1 T0_ok hP hm hN ?_
    refine g1 ?_
    refine awp_ret ?_
    refine fin_mk [] rfl rfl ?_ trivial (by decide)
    rfl
  · skip
    have hl : xs.length ≤ 1048576 := by simp only [decide_eq_false_iff_not] at hc0; split at hc0 <;> omega
    refine awp_skip ?_
    refine awp_seq ?_
    refine awp_draw T0_ok hP hm hN Pr_mix [0, 1, 2, 3, 4, 5, 6, 7, 8, 9, 10, 11] [1, 3, 4] _ rfl (by rfl) ?_
    refine d1 T0_ok ?_
    refine dp1 ?_ (call1 ok_L_toRack (_, _) [] (hpre := by (try dsimp only); exact hl))
    refine d1 T0_ok ?_
    refine dp1 ?_ (call1 ok_L_toBook _ [])
    refine dp1 ?_ (call1 ok_S_NeedsMoved ((_, _), b) [] (hpre := by (try dsimp only); exact ⟨⟨hpp, hv⟩, hl, hbk⟩))
    refine d1 T0_ok ?_
    refine d1 T0_ok ?_
    refine d1 T0_ok ?_
    refine d1 T0_ok ?_
    refine d1 T0_ok ?_
    refine dreg_nil ?_
    refine awp_seq ?_
    refine r1 T0_ok hP hm hN ?_
    refine g1 ?_
    refine gc1 ?_ (call1 ok_L_toRack (_, _) [] (hpre := by (try dsimp only); exact hl))
    refine g1 ?_
    refine g1 ?_
    refine awp_seq ?_
    refine awp_draw T0_ok hP hm hN Pr_mix [0, 1, 2, 3, 4, 5, 6, 7, 8, 9, 10, 11] [2, 3] _ rfl (by rfl) ?_
    refine d1 T0_ok ?_
    refine d1 T0_ok ?_
    refine dp1 ?_ (call1 ok_L_toBook _ [])
    refine dp1 ?_ (call1 ok_I_NeedsMoved ((_, _), b) [] (hpre := by (try dsimp only); exact ⟨⟨hpp, hv⟩, hl, hbk⟩))
    refine d1 T0_ok ?_
    refine d1 T0_ok ?_
    refine d1 T0_ok ?_
    refine d1 T0_ok ?_
    refine d1 T0_ok ?_
    refine dreg_nil ?_
    refine awp_seq ?_
    refine awp_seq ?_
    refine r1 T0_ok hP hm hN ?_
    refine g1 ?_
    refine g1 ?_
    refine g1 ?_
    refine g1 ?_
    refine gg1 ?_
    refine gg1 ?_
    refine gg1 ?_
    refine g1 ?_
    refine awp_cond rfl (fun hc1 => ?_) (fun hc1 => ?_)
    · skip
      exfalso; rw [need_same] at hc1; simp at hc1
    · skip
      refine awp_skip ?_
      refine awp_seq ?_
      refine awp_seq ?_
      refine awp_draw T0_ok hP hm hN Pr_mix [0, 1, 2, 3, 4, 5, 6, 7, 8, 9, 10, 11] [2, 3] _ rfl (by rfl) ?_
      refine d1 T0_ok ?_
      refine d1 T0_ok ?_
      refine dp1 ?_ (call1 ok_L_toRack (_, _) [] (hpre := by (try dsimp only); exact hl))
      refine dp1 ?_ (call1 ok_L_eqRack ((_, _), (_, _)) [] (hpre := by (try dsimp only); exact ⟨by omega, by omega⟩))
      refine d1 T0_ok ?_
      refine dreg_nil ?_
      refine awp_cond rfl (fun hc2 => ?_) (fun hc2 => ?_)
      · skip
        exfalso; simp [ask] at hc2
      · skip
        refine awp_skip ?_
        refine awp_seq ?_
        refine r1 T0_ok hP hm hN ?_
        refine g1 ?_
        refine awp_ret ?_
        refine fin_mk [] rfl rfl ?_ trivial (by decide)
        rfl
end Go.Proofs.Ytafobbekeoghiaa.Abs
