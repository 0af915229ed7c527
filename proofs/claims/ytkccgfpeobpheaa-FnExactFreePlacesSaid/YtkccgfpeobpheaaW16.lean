import Derived.Test.YtkccgfpeobpheaaW15
set_option linter.unusedVariables false
set_option linter.unusedSimpArgs false
namespace Go.Proofs.Ytkccgfpeobpheaa.Abs
open Go Go.RowKit
noncomputable abbrev s_S_RoomFor : Spec ((Int × List Pl) × Bk) where
  args := fun x => [rackD x.1, bkD x.2]
  pre := fun x => ((isI16 x.1.1 ∧ ∀ b ∈ x.1.2, isPl b) ∧ x.1.2.length ≤ 1048576) ∧ isBk x.2
  res := fun x => .tup [.val (.int .i64 (roomForR (okR x.1.1 x.1.2) x.1.1 x.1.2 x.2 (((placeN (beforeB x.2 (x.1.2.map Prod.snd)) x.1.2.length : Nat) : Int))).1), .val (.int .i64 (roomForR (okR x.1.1 x.1.2) x.1.1 x.1.2 x.2 (((placeN (beforeB x.2 (x.1.2.map Prod.snd)) x.1.2.length : Nat) : Int))).2.1), .val (.int .i64 (roomForR (okR x.1.1 x.1.2) x.1.1 x.1.2 x.2 (((placeN (beforeB x.2 (x.1.2.map Prod.snd)) x.1.2.length : Nat) : Int))).2.2)]

set_option maxRecDepth 20000 in
set_option maxHeartbeats 1000000 in
theorem ok_S_RoomFor : FnOk Pr 19 s_S_RoomFor := by
  refine fn_ok 2 0 T0_ok Go.Proofs.Try.func19 rfl (enters_of Go.Proofs.Try.func19 rfl rfl) (fun _ => rfl) (fun _ => rfl) (fun _ => rfl) ?_
  rintro ⟨⟨p, xs⟩, x⟩ ⟨⟨⟨hpp, hv⟩, hl⟩, hx⟩ C hP hN hm hG
  change awp C _ _ ⟨[(0, .agg [.val (.int .i16 p), .sl 9 (pls xs)]), (1, .val (.agg #[.int .i16 x.cls, .int .u8 x.m0, .int .u8 x.m1, .int .u8 x.m2, .int .i16 x.vol, .int .i16 x.wide, .int .i16 x.high, .int .i16 x.weight]))], [], 0⟩
  simp only at hv hl
  have hpn := placeN_le (beforeB x (xs.map Prod.snd)) xs.length
  refine awp_seq ?_
  refine r1 T0_ok hP hm hN ?_
  refine g1 ?_
  refine g1 ?_
  refine g1 ?_
  refine g1 ?_
  refine g1 ?_
  refine awp_seq ?_
  refine awp_seq ?_
  refine r1 T0_ok hP hm hN ?_
  refine gc1 ?_ (call1 ok_S_l05Ok (_, _) [] (hpre := by (try dsimp only); exact ⟨⟨hpp, hv⟩, hl⟩))
  refine g1 ?_
  refine g1 ?_
  refine ggc1 ?_ (hs := by intro hb; simp +decide only [hb, gd_tt, gd_ff, beq_self_eq_true, Bool.true_and, beq_true]; exact ⟨rfl, _, call1 ok_S_l01Book (_, _, _, false, 0, x) [] (hpre := by (try dsimp only); exact ⟨rfl, hx⟩), rfl, rfl, rfl⟩)
  refine gg1 ?_
  refine g1 ?_
  refine awp_cond rfl (fun hc0 => ?_) (fun hc0 => ?_)
  · skip
    refine awp_seq ?_
    refine r1 T0_ok hP hm hN ?_
    refine g1 ?_
    refine g1 ?_
    refine g1 ?_
    refine awp_ret ?_
    refine fin_mk [] rfl rfl ?_ trivial (by decide)
    show D.tup [.val (.int .i64 (roomForR (okR p xs) p xs x (((placeN (beforeB x (xs.map Prod.snd)) xs.length : Nat) : Int))).1), .val (.int .i64 (roomForR (okR p xs) p xs x (((placeN (beforeB x (xs.map Prod.snd)) xs.length : Nat) : Int))).2.1), .val (.int .i64 (roomForR (okR p xs) p xs x (((placeN (beforeB x (xs.map Prod.snd)) xs.length : Nat) : Int))).2.2)] = _
    rw [roomForR, if_pos hc0]
    rfl
  · skip
    refine awp_skip ?_
    refine awp_seq ?_
    refine r1 T0_ok hP hm hN ?_
    refine gc1 ?_ (call1 ok_S_l05Index ((_, _), _, _, _, x) [] (hpre := by (try dsimp only); exact ⟨⟨hv, hl⟩, rfl, hx⟩))
    refine gc1 ?_ (call1 ok_S_l05Room ((_, _), _) [] (hpre := by (try dsimp only); exact ⟨hl, ⟨hpp, hv⟩, by omega, by omega⟩))
    refine g1 ?_
    refine g1 ?_
    refine g1 ?_
    refine g1 ?_
    refine g1 ?_
    refine awp_seq ?_
    refine r1 T0_ok hP hm hN ?_
    refine g1 ?_
    refine g1 ?_
    refine g1 ?_
    refine g1 ?_
    refine g1 ?_
    refine awp_ret ?_
    refine fin_mk [] rfl rfl ?_ trivial (by decide)
    show D.tup [.val (.int .i64 (roomForR (okR p xs) p xs x (((placeN (beforeB x (xs.map Prod.snd)) xs.length : Nat) : Int))).1), .val (.int .i64 (roomForR (okR p xs) p xs x (((placeN (beforeB x (xs.map Prod.snd)) xs.length : Nat) : Int))).2.1), .val (.int .i64 (roomForR (okR p xs) p xs x (((placeN (beforeB x (xs.map Prod.snd)) xs.length : Nat) : Int))).2.2)] = _
    rw [roomForR, if_neg (by rw [hc0]; simp)]
    rfl

noncomputable abbrev s_I_RoomFor : Spec ((Int × List Pl) × Bk) where
  args := fun x => [rackD x.1, bkD x.2]
  pre := fun x => ((isI16 x.1.1 ∧ ∀ b ∈ x.1.2, isPl b) ∧ x.1.2.length ≤ 1048576) ∧ isBk x.2
  res := fun x => .tup [.val (.int .i64 (roomForR (validR x.1.1 x.1.2) x.1.1 x.1.2 x.2 (fstOf (aboveP x.2) x.1.2)).1), .val (.int .i64 (roomForR (validR x.1.1 x.1.2) x.1.1 x.1.2 x.2 (fstOf (aboveP x.2) x.1.2)).2.1), .val (.int .i64 (roomForR (validR x.1.1 x.1.2) x.1.1 x.1.2 x.2 (fstOf (aboveP x.2) x.1.2)).2.2)]

set_option maxRecDepth 20000 in
set_option maxHeartbeats 1000000 in
theorem ok_I_RoomFor : FnOk Pr 21 s_I_RoomFor := by
  refine fn_ok 2 0 T0_ok Go.Proofs.Try.func21 rfl (enters_of Go.Proofs.Try.func21 rfl rfl) (fun _ => rfl) (fun _ => rfl) (fun _ => rfl) ?_
  rintro ⟨⟨p, xs⟩, x⟩ ⟨⟨⟨hpp, hv⟩, hl⟩, hx⟩ C hP hN hm hG
  change awp C _ _ ⟨[(0, .agg [.val (.int .i16 p), .sl 9 (pls xs)]), (1, .val (.agg #[.int .i16 x.cls, .int .u8 x.m0, .int .u8 x.m1, .int .u8 x.m2, .int .i16 x.vol, .int .i16 x.wide, .int .i16 x.high, .int .i16 x.weight]))], [], 0⟩
  simp only at hv hl
  have hfl := fstOf_lt (aboveP x) xs
  refine awp_seq ?_
  refine r1 T0_ok hP hm hN ?_
  refine g1 ?_
  refine g1 ?_
  refine g1 ?_
  refine g1 ?_
  refine g1 ?_
  refine awp_seq ?_
  refine awp_seq ?_
  refine r1 T0_ok hP hm hN ?_
  refine g1 ?_
  refine g1 ?_
  refine gc1 ?_ (call1 ok_I_rackCode ((_, _), _) [] (hpre := by (try dsimp only); exact ⟨hv, hl⟩))
  refine g1 ?_
  refine awp_seq ?_
  refine r1 T0_ok hP hm hN ?_
  refine g1 ?_
  refine g1 ?_
  refine awp_cond rfl (fun hc0 => ?_) (fun hc0 => ?_)
  · skip
    have hcc : (!validR p xs || !validB x) = true := by revert hc0; cases (!validR p xs || !validB x) <;> simp
    simp only [hcc, if_true]
    refine awp_seq ?_
    refine r1 T0_ok hP hm hN ?_
    refine g1 ?_
    refine g1 ?_
    refine g1 ?_
    refine g1 ?_
    refine awp_ret ?_
    refine fin_mk [] rfl rfl ?_ trivial (by decide)
    show D.tup [.val (.int .i64 (roomForR (validR p xs) p xs x (fstOf (aboveP x) xs)).1), .val (.int .i64 (roomForR (validR p xs) p xs x (fstOf (aboveP x) xs)).2.1), .val (.int .i64 (roomForR (validR p xs) p xs x (fstOf (aboveP x) xs)).2.2)] = _
    rw [roomForR, if_pos hcc]
    rfl
  · skip
    have hcc : (!validR p xs || !validB x) = false := by revert hc0; cases (!validR p xs || !validB x) <;> simp
    refine awp_skip ?_
    refine awp_seq ?_
    refine awp_draw T0_ok hP hm hN Pr_mix [0, 1, 2, 3, 4, 5, 6, 7, 8, 9, 10, 11] [3, 4] _ rfl (by rfl) ?_
    refine d1 T0_ok ?_
    refine d1 T0_ok ?_
    refine d1 T0_ok ?_
    refine dp1 ?_ (call1 ok_I_Rack_index ((_, _), _) [] (hpre := by (try dsimp only); exact hl))
    refine dp1 ?_ (call1 ok_I_Rack_room ((_, _), _) [] (hpre := by (try dsimp only); exact ⟨hl, ⟨hpp, hv⟩, by omega, by omega⟩))
    refine d1 T0_ok ?_
    refine d1 T0_ok ?_
    refine d1 T0_ok ?_
    refine d1 T0_ok ?_
    refine d1 T0_ok ?_
    refine dreg_nil ?_
    refine awp_seq ?_
    refine r1 T0_ok hP hm hN ?_
    refine g1 ?_
    refine g1 ?_
    refine g1 ?_
    refine g1 ?_
    refine g1 ?_
    refine awp_ret ?_
    refine fin_mk [] rfl rfl ?_ trivial (by decide)
    show D.tup [.val (.int .i64 (roomForR (validR p xs) p xs x (fstOf (aboveP x) xs)).1), .val (.int .i64 (roomForR (validR p xs) p xs x (fstOf (aboveP x) xs)).2.1), .val (.int .i64 (roomForR (validR p xs) p xs x (fstOf (aboveP x) xs)).2.2)] = _
    rw [roomForR, if_neg (by rw [hcc]; simp)]
    rfl

theorem room_same {p : Int} {xs : List Pl} {x : Bk} : roomForR (validR p xs) p xs x (fstOf (aboveP x) xs) = roomForR (okR p xs) p xs x ((placeN (beforeB x (xs.map Prod.snd)) xs.length : Nat) : Int) := by
  rw [okR_validR]
  unfold roomForR
  cases h : validR p xs with
  | false => rfl
  | true =>
    have hs : sortedB cmpU (xs.map Prod.snd) = true := by
      unfold validR at h
      simp only [Bool.and_eq_true] at h
      exact h.2
    rw [place_fst hs]

noncomputable abbrev s_L_FnExactRoomFor : Spec ((Int × List Pl) × Bk) where
  args := fun x => [.agg [.val (.int .i16 x.1.1), .sl 9 (pls x.1.2)], bkD x.2]
  pre := fun x => (isI16 x.1.1 ∧ (∀ b ∈ x.1.2, isPl b) ∧ x.1.2.length ≤ 9223372036854775807) ∧ isBk x.2
  res := fun x => .val (.bool true)

set_option maxRecDepth 20000 in
set_option maxHeartbeats 4000000 in
theorem ok_L_FnExactRoomFor : FnOk Pr 6 s_L_FnExactRoomFor := by
  refine fn_ok 2 0 T0_ok Go.Proofs.Try.func6 rfl (enters_of Go.Proofs.Try.func6 rfl rfl) (fun _ => rfl) (fun _ => rfl) (fun _ => rfl) ?_
  rintro ⟨⟨p, xs⟩, x⟩ ⟨⟨hpp, hv, hl0⟩, hx⟩ C hP hN hm hG
  change awp C _ _ ⟨[(0, .agg [.val (.int .i16 p), .sl 9 (pls xs)]), (1, .val (.agg #[.int .i16 x.cls, .int .u8 x.m0, .int .u8 x.m1, .int .u8 x.m2, .int .i16 x.vol, .int .i16 x.wide, .int .i16 x.high, .int .i16 x.weight]))], [], 0⟩
  simp only at hv hl0
  refine awp_seq ?_
  refine r1 T0_ok hP hm hN ?_
  refine g1 ?_
  refine g1 ?_
  refine g1 ?_
  refine awp_seq ?_
  refine r1 T0_ok hP hm hN ?_
  refine g1 ?_
  refine awp_seq ?_
  refine r1 T0_ok hP hm hN ?_
  refine g1 ?_
  refine g1 ?_
  refine gc1 ?_ (call1 ok_L_szRack ((_, _), _) [] (hpre := by (try dsimp only); exact ⟨hl0, by omega, by omega⟩))
  refine g1 ?_
  refine awp_seq ?_
  refine awp_seq ?_
  refine r1 T0_ok hP hm hN ?_
  refine g1 ?_
  refine g1 ?_
  refine awp_cond rfl (fun hc0 => ?_) (fun hc0 => ?_)
  · skip
    refine awp_seq ?_
    refine r1 T0_ok hP hm hN ?_
    refine g1 ?_
    refine awp_ret ?_
    refine fin_mk [] rfl rfl ?_ trivial (by decide)
    rfl
  · skip
    have hl : xs.length ≤ 1048576 := by simp only [decide_eq_false_iff_not] at hc0; split at hc0 <;> omega
    refine awp_skip ?_
    refine awp_seq ?_
    refine awp_draw T0_ok hP hm hN Pr_mix [0, 1, 2, 3, 4, 5, 6, 7, 8, 9, 10, 11] [1, 3, 4] _ rfl (by rfl) ?_
    refine d1 T0_ok ?_
    refine dp1 ?_ (call1 ok_L_toRack (_, _) [] (hpre := by (try dsimp only); exact hl))
    refine d1 T0_ok ?_
    refine dp1 ?_ (call1 ok_L_toBook _ [])
    refine dp1 ?_ (call1 ok_S_RoomFor ((_, _), _) [] (hpre := by (try dsimp only); exact ⟨⟨⟨hpp, hv⟩, hl⟩, hx⟩))
    refine d1 T0_ok ?_
    refine d1 T0_ok ?_
    refine d1 T0_ok ?_
    refine d1 T0_ok ?_
    refine d1 T0_ok ?_
    refine d1 T0_ok ?_
    refine d1 T0_ok ?_
    refine dreg_nil ?_
    refine awp_seq ?_
    refine r1 T0_ok hP hm hN ?_
    refine g1 ?_
    refine gc1 ?_ (call1 ok_L_toRack (_, _) [] (hpre := by (try dsimp only); exact hl))
    refine g1 ?_
    refine g1 ?_
    refine awp_seq ?_
    refine awp_draw T0_ok hP hm hN Pr_mix [0, 1, 2, 3, 4, 5, 6, 7, 8, 9, 10, 11] [2, 3] _ rfl (by rfl) ?_
    refine d1 T0_ok ?_
    refine d1 T0_ok ?_
    refine dp1 ?_ (call1 ok_L_toBook _ [])
    refine dp1 ?_ (call1 ok_I_RoomFor ((_, _), _) [] (hpre := by (try dsimp only); exact ⟨⟨⟨hpp, hv⟩, hl⟩, hx⟩))
    refine d1 T0_ok ?_
    refine d1 T0_ok ?_
    refine d1 T0_ok ?_
    refine d1 T0_ok ?_
    refine d1 T0_ok ?_
    refine d1 T0_ok ?_
    refine d1 T0_ok ?_
    refine dreg_nil ?_
    refine awp_seq ?_
    refine awp_seq ?_
    refine r1 T0_ok hP hm hN ?_
    refine g1 ?_
    refine g1 ?_
    refine g1 ?_
    refine g1 ?_
    refine gg1 ?_
    refine gg1 ?_
    refine gg1 ?_
    refine g1 ?_
    refine g1 ?_
    refine gg1 ?_
    refine gg1 ?_
    refine gg1 ?_
    refine g1 ?_
    refine awp_cond rfl (fun hc1 => ?_) (fun hc1 => ?_)
    · skip
      exfalso; rw [room_same] at hc1; simp at hc1
    · skip
      refine awp_skip ?_
      refine awp_seq ?_
      refine awp_seq ?_
      refine awp_draw T0_ok hP hm hN Pr_mix [0, 1, 2, 3, 4, 5, 6, 7, 8, 9, 10, 11] [2, 3] _ rfl (by rfl) ?_
      refine d1 T0_ok ?_
      refine d1 T0_ok ?_
      refine dp1 ?_ (call1 ok_L_toRack (_, _) [] (hpre := by (try dsimp only); exact hl))
      refine dp1 ?_ (call1 ok_L_eqRack ((_, _), (_, _)) [] (hpre := by (try dsimp only); exact ⟨by omega, by omega⟩))
      refine d1 T0_ok ?_
      refine dreg_nil ?_
      refine awp_cond rfl (fun hc2 => ?_) (fun hc2 => ?_)
      · skip
        exfalso; simp [ask] at hc2
      · skip
        refine awp_skip ?_
        refine awp_seq ?_
        refine r1 T0_ok hP hm hN ?_
        refine g1 ?_
        refine awp_ret ?_
        refine fin_mk [] rfl rfl ?_ trivial (by decide)
        rfl
end Go.Proofs.Ytkccgfpeobpheaa.Abs
