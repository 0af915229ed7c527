import Derived.Test.YtbgapcmdigcejaaDoorT0
set_option linter.unusedVariables false
set_option linter.unusedSimpArgs false
namespace Go.Proofs.YtbgapcmdigcejaaDoor.Abs
open Go Go.RowKit
noncomputable abbrev s_S_Decimal0 : Spec Int where
  args := fun n => [.val (.int .i64 n)]
  pre := fun n => 0 ≤ n ∧ n < 10
  res := fun n => .val (.string (decS n))

set_option maxRecDepth 20000 in
set_option maxHeartbeats 1000000 in
theorem ok_S_Decimal0 : FnOk Pr 25 s_S_Decimal0 := by
  refine fn_ok 1 0 T0_ok Go.Proofs.Tryd.func25 rfl (enters_of Go.Proofs.Tryd.func25 rfl rfl) (fun _ => rfl) (fun _ => rfl) (fun _ => rfl) ?_
  rintro n ⟨hn0, hn1⟩ C hP hN hm hG
  change awp C _ _ ⟨[(0, .val (.int .i64 n))], [], 0⟩
  have hn0 : 0 ≤ n := hn0
  have hmm : 0 ≤ n.tmod 10 ∧ n.tmod 10 < 10 := by have h := tdiv_nat hn0; omega
  have hs1 : (strOfNums [48 + n.tmod 10]).size = 1 := by rw [strOfNums_size]; rfl
  have hn1 : n < 10 := hn1
  refine awp_seq ?_
  refine r1 T0_ok hP hm hN ?_
  refine g1 ?_
  refine awp_seq ?_
  refine awp_seq ?_
  refine r1 T0_ok hP hm hN ?_
  refine g1 ?_
  refine g1 ?_
  refine awp_cond rfl (fun hc0 => ?_) (fun hc0 => ?_)
  · skip
    refine awp_seq ?_
    refine r1 T0_ok hP hm hN ?_
    refine g1 ?_
    refine g1 ?_
    refine g1 ?_
    refine g1 ?_
    refine g1 ?_
    refine gc1 ?_ (oprel_b2s T0_ok rfl [48 + n.tmod 10] rfl rfl rfl (by simp) rfl rfl rfl rfl)
    refine g1 ?_
    refine awp_ret ?_
    refine fin_mk [] rfl rfl ?_ trivial (by decide)
    show D.val (.string (decS n)) = _
    rw [← decS_small hn0 hn1]
    rfl
  · skip
    exfalso; simp at hc0; omega

noncomputable abbrev s_S_Decimal1 : Spec Int where
  args := fun n => [.val (.int .i64 n)]
  pre := fun n => 0 ≤ n ∧ n < 100
  res := fun n => .val (.string (decS n))

set_option maxRecDepth 20000 in
set_option maxHeartbeats 1000000 in
theorem ok_S_Decimal1 : FnOk Pr 25 s_S_Decimal1 := by
  refine fn_ok 1 0 T0_ok Go.Proofs.Tryd.func25 rfl (enters_of Go.Proofs.Tryd.func25 rfl rfl) (fun _ => rfl) (fun _ => rfl) (fun _ => rfl) ?_
  rintro n ⟨hn0, hn1⟩ C hP hN hm hG
  change awp C _ _ ⟨[(0, .val (.int .i64 n))], [], 0⟩
  have hn0 : 0 ≤ n := hn0
  have hmm : 0 ≤ n.tmod 10 ∧ n.tmod 10 < 10 := by have h := tdiv_nat hn0; omega
  have hs1 : (strOfNums [48 + n.tmod 10]).size = 1 := by rw [strOfNums_size]; rfl
  have hn1 : n < 100 := hn1
  have htd := tdiv_nat hn0
  have hs2 := decS_size4 (n := n.tdiv 10) (by omega) (by omega)
  refine awp_seq ?_
  refine r1 T0_ok hP hm hN ?_
  refine g1 ?_
  refine awp_seq ?_
  refine awp_seq ?_
  refine r1 T0_ok hP hm hN ?_
  refine g1 ?_
  refine g1 ?_
  refine awp_cond rfl (fun hc0 => ?_) (fun hc0 => ?_)
  · skip
    refine awp_seq ?_
    refine r1 T0_ok hP hm hN ?_
    refine g1 ?_
    refine g1 ?_
    refine g1 ?_
    refine g1 ?_
    refine g1 ?_
    refine gc1 ?_ (oprel_b2s T0_ok rfl [48 + n.tmod 10] rfl rfl rfl (by simp) rfl rfl rfl rfl)
    refine g1 ?_
    refine awp_ret ?_
    refine fin_mk [] rfl rfl ?_ trivial (by decide)
    show D.val (.string (decS n)) = _
    rw [← decS_small hn0 (by simpa using hc0)]
    rfl
  · skip
    have hge : 10 ≤ n := by simp at hc0; omega
    refine awp_skip ?_
    refine awp_seq ?_
    refine awp_join (st1 := ⟨[(2, .val (.string (decS (n.tdiv 10) ++ strOfNums [48 + n.tmod 10])))], [(0, ⟨5, 1, false, [[.val (.int .u8 (48 + n.tmod 10))]]⟩)], 1⟩) ?_ ?_
    · skip
      refine awp_any hP Pr_mix _ rfl 11 rfl ?_
      refine anyS_cut (fuel' := 0) (listed' := #[true, true, true, true, true, true, true, true, true, true, true]) (st' := ⟨[(2, .val (.string (decS (n.tdiv 10) ++ strOfNums [48 + n.tmod 10])))], [(0, ⟨5, 1, false, [[.val (.int .u8 (48 + n.tmod 10))]]⟩)], 1⟩) ?_ (fun hS0 => ?_)
      · skip
        refine anyS_done (by rfl) ?_
        exact ⟨rfl, rfl⟩
      refine anyS_cut (fuel' := 1) (listed' := #[true, true, true, true, true, true, true, true, true, true, false]) (st' := ⟨[(20, .val (.string (decS (n.tdiv 10) ++ strOfNums [48 + n.tmod 10])))], [(0, ⟨5, 1, false, [[.val (.int .u8 (48 + n.tmod 10))]]⟩)], 1⟩) ?_ (fun hS1 => ?_)
      · skip
        refine anyS_cons T0_ok hP hm hN (by rfl) [10] (by rfl) rfl ?_
        refine ⟨⟨_, rfl, rfl, ?_⟩, trivial⟩
        refine g1 ?_
        exact anyS_weak (st' := ⟨[(2, .val (.string (decS (n.tdiv 10) ++ strOfNums [48 + n.tmod 10])))], [(0, ⟨5, 1, false, [[.val (.int .u8 (48 + n.tmod 10))]]⟩)], 1⟩) (by exact weak_sl (sub_cons rfl (sub_nil))) hS0
      refine anyS_cut (fuel' := 3) (listed' := #[true, true, true, true, true, true, true, true, false, false, false]) (st' := ⟨[(13, .val (.string (decS (n.tdiv 10)))), (18, .own 0)], [(0, ⟨5, 1, false, [[.val (.int .u8 (48 + n.tmod 10))]]⟩)], 1⟩) ?_ (fun hS2 => ?_)
      · skip
        refine anyS_cons T0_ok hP hm hN (by rfl) [8] (by rfl) rfl ?_
        refine ⟨⟨_, rfl, rfl, ?_⟩, trivial⟩
        refine gc1 ?_ (oprel_b2s T0_ok rfl [48 + n.tmod 10] rfl rfl rfl (by simp) rfl rfl rfl rfl)
        refine anyS_floatV T0_ok hP hm hN (by rfl) 9 rfl rfl (by rfl) (by rfl) (by first | trivial | rfl | exact ⟨rfl, rfl⟩ | exact ⟨rfl, rfl, fun _ => rfl, Nat.le_of_ble_eq_true rfl, .inl rfl⟩ | exact ⟨rfl, rfl, fun h => (nomatch h), Nat.le_of_ble_eq_true rfl, .inl rfl⟩ | exact ⟨rfl, rfl, fun _ => rfl, Nat.le_of_ble_eq_true rfl, .inr rfl⟩ | exact ⟨rfl, rfl, fun h => (nomatch h), Nat.le_of_ble_eq_true rfl, .inr rfl⟩ | omega | exact ⟨rfl, by (repeat (first | exact fm_nil | refine fm_cons ⟨rfl, rfl⟩ ?_)), Nat.le_of_ble_eq_true rfl, Nat.le_of_ble_eq_true rfl⟩ | (refine ⟨?_, ?_, ?_, ?_, ?_, ?_, ?_⟩ <;> first | omega | exact Nat.le_of_ble_eq_true rfl) | exact ⟨rfl, by omega, by (try simp only [List.length_map, List.length_set]); omega⟩ | exact ⟨rfl, by omega, by simp only [Int.toNat_natCast]; omega, by omega, Nat.le_of_ble_eq_true rfl, rfl⟩) rfl (by rfl) (by rfl) (by rfl) ?_
        refine g1 ?_
        exact anyS_weak (st' := ⟨[(20, .val (.string (decS (n.tdiv 10) ++ strOfNums [48 + n.tmod 10])))], [(0, ⟨5, 1, false, [[.val (.int .u8 (48 + n.tmod 10))]]⟩)], 1⟩) (by exact weak_sl (sub_cons rfl (sub_nil))) hS1
      refine anyS_cut (fuel' := 3) (listed' := #[true, true, false, true, true, true, true, true, true, false, false]) (st' := ⟨[(12, .val (.int .i64 (n.tdiv 10))), (19, .val (.string (strOfNums [48 + n.tmod 10])))], [(0, ⟨5, 1, false, [[.val (.int .u8 (48 + n.tmod 10))]]⟩)], 1⟩) ?_ (fun hS3 => ?_)
      · skip
        refine anyS_cons T0_ok hP hm hN (by rfl) [2] (by rfl) rfl ?_
        refine ⟨⟨_, rfl, rfl, ?_⟩, trivial⟩
        refine gc1 ?_ (call1 ok_S_Decimal0 _ [] (hpre := by (try dsimp only); exact ⟨by omega, by omega⟩))
        refine anyS_floatV T0_ok hP hm hN (by rfl) 9 rfl rfl (by rfl) (by rfl) (by first | trivial | rfl | exact ⟨rfl, rfl⟩ | exact ⟨rfl, rfl, fun _ => rfl, Nat.le_of_ble_eq_true rfl, .inl rfl⟩ | exact ⟨rfl, rfl, fun h => (nomatch h), Nat.le_of_ble_eq_true rfl, .inl rfl⟩ | exact ⟨rfl, rfl, fun _ => rfl, Nat.le_of_ble_eq_true rfl, .inr rfl⟩ | exact ⟨rfl, rfl, fun h => (nomatch h), Nat.le_of_ble_eq_true rfl, .inr rfl⟩ | omega | exact ⟨rfl, by (repeat (first | exact fm_nil | refine fm_cons ⟨rfl, rfl⟩ ?_)), Nat.le_of_ble_eq_true rfl, Nat.le_of_ble_eq_true rfl⟩ | (refine ⟨?_, ?_, ?_, ?_, ?_, ?_, ?_⟩ <;> first | omega | exact Nat.le_of_ble_eq_true rfl) | exact ⟨rfl, by omega, by (try simp only [List.length_map, List.length_set]); omega⟩ | exact ⟨rfl, by omega, by simp only [Int.toNat_natCast]; omega, by omega, Nat.le_of_ble_eq_true rfl, rfl⟩) rfl (by rfl) (by rfl) (by rfl) ?_
        refine g1 ?_
        exact anyS_weak (st' := ⟨[(20, .val (.string (decS (n.tdiv 10) ++ strOfNums [48 + n.tmod 10])))], [(0, ⟨5, 1, false, [[.val (.int .u8 (48 + n.tmod 10))]]⟩)], 1⟩) (by exact weak_sl (sub_cons rfl (sub_nil))) hS1
      refine anyS_cut (fuel' := 4) (listed' := #[true, true, true, true, true, true, true, false, false, false, false]) (st' := ⟨[(13, .val (.string (decS (n.tdiv 10)))), (17, .val (.int .u8 (48 + n.tmod 10)))], [], 0⟩) ?_ (fun hS4 => ?_)
      · skip
        refine anyS_cons T0_ok hP hm hN (by rfl) [7] (by rfl) rfl ?_
        refine ⟨⟨_, rfl, rfl, ?_⟩, trivial⟩
        refine g1 ?_
        exact anyS_weak (st' := ⟨[(13, .val (.string (decS (n.tdiv 10)))), (18, .own 0)], [(0, ⟨5, 1, false, [[.val (.int .u8 (48 + n.tmod 10))]]⟩)], 1⟩) (by exact weak_sl (sub_cons rfl (sub_cons rfl (sub_nil)))) hS2
      refine anyS_cut (fuel' := 4) (listed' := #[true, true, false, true, true, true, true, true, false, false, false]) (st' := ⟨[(12, .val (.int .i64 (n.tdiv 10))), (18, .own 0)], [(0, ⟨5, 1, false, [[.val (.int .u8 (48 + n.tmod 10))]]⟩)], 1⟩) ?_ (fun hS5 => ?_)
      · skip
        refine anyS_cons T0_ok hP hm hN (by rfl) [2, 8] (by rfl) rfl ?_
        refine ⟨⟨_, rfl, rfl, ?_⟩, ?_⟩
        · skip
          refine gc1 ?_ (call1 ok_S_Decimal0 _ [] (hpre := by (try dsimp only); exact ⟨by omega, by omega⟩))
          exact anyS_weak (st' := ⟨[(13, .val (.string (decS (n.tdiv 10)))), (18, .own 0)], [(0, ⟨5, 1, false, [[.val (.int .u8 (48 + n.tmod 10))]]⟩)], 1⟩) (by exact weak_sl (sub_cons rfl (sub_cons rfl (sub_nil)))) hS2
        refine ⟨⟨_, rfl, rfl, ?_⟩, trivial⟩
        refine gc1 ?_ (oprel_b2s T0_ok rfl [48 + n.tmod 10] rfl rfl rfl (by simp) rfl rfl rfl rfl)
        exact anyS_weak (st' := ⟨[(12, .val (.int .i64 (n.tdiv 10))), (19, .val (.string (strOfNums [48 + n.tmod 10])))], [(0, ⟨5, 1, false, [[.val (.int .u8 (48 + n.tmod 10))]]⟩)], 1⟩) (by exact weak_sl (sub_cons rfl (sub_cons rfl (sub_nil)))) hS3
      refine anyS_cut (fuel' := 5) (listed' := #[true, true, false, true, true, true, true, false, false, false, false]) (st' := ⟨[(12, .val (.int .i64 (n.tdiv 10))), (17, .val (.int .u8 (48 + n.tmod 10)))], [], 0⟩) ?_ (fun hS6 => ?_)
      · skip
        refine anyS_cons T0_ok hP hm hN (by rfl) [2, 7] (by rfl) rfl ?_
        refine ⟨⟨_, rfl, rfl, ?_⟩, ?_⟩
        · skip
          refine gc1 ?_ (call1 ok_S_Decimal0 _ [] (hpre := by (try dsimp only); exact ⟨by omega, by omega⟩))
          exact anyS_weak (st' := ⟨[(13, .val (.string (decS (n.tdiv 10)))), (17, .val (.int .u8 (48 + n.tmod 10)))], [], 0⟩) (by exact weak_sl (sub_cons rfl (sub_cons rfl (sub_nil)))) hS4
        refine ⟨⟨_, rfl, rfl, ?_⟩, trivial⟩
        refine g1 ?_
        exact anyS_weak (st' := ⟨[(12, .val (.int .i64 (n.tdiv 10))), (18, .own 0)], [(0, ⟨5, 1, false, [[.val (.int .u8 (48 + n.tmod 10))]]⟩)], 1⟩) (by exact weak_sl (sub_cons rfl (sub_cons rfl (sub_nil)))) hS5
      refine anyS_float T0_ok hP hm hN (by rfl) 0 rfl rfl rfl (by rfl) (by rfl) (by rfl) ?_
      refine g1 ?_
      refine anyS_floatV T0_ok hP hm hN (by rfl) 1 rfl rfl (by rfl) (by rfl) (by first | trivial | rfl | exact ⟨rfl, rfl⟩ | exact ⟨rfl, rfl, fun _ => rfl, Nat.le_of_ble_eq_true rfl, .inl rfl⟩ | exact ⟨rfl, rfl, fun h => (nomatch h), Nat.le_of_ble_eq_true rfl, .inl rfl⟩ | exact ⟨rfl, rfl, fun _ => rfl, Nat.le_of_ble_eq_true rfl, .inr rfl⟩ | exact ⟨rfl, rfl, fun h => (nomatch h), Nat.le_of_ble_eq_true rfl, .inr rfl⟩ | omega | exact ⟨rfl, by (repeat (first | exact fm_nil | refine fm_cons ⟨rfl, rfl⟩ ?_)), Nat.le_of_ble_eq_true rfl, Nat.le_of_ble_eq_true rfl⟩ | (refine ⟨?_, ?_, ?_, ?_, ?_, ?_, ?_⟩ <;> first | omega | exact Nat.le_of_ble_eq_true rfl) | exact ⟨rfl, by omega, by (try simp only [List.length_map, List.length_set]); omega⟩ | exact ⟨rfl, by omega, by simp only [Int.toNat_natCast]; omega, by omega, Nat.le_of_ble_eq_true rfl, rfl⟩) rfl (by rfl) (by rfl) (by rfl) ?_
      refine g1 ?_
      refine anyS_float T0_ok hP hm hN (by rfl) 3 rfl rfl rfl (by rfl) (by rfl) (by rfl) ?_
      refine g1 ?_
      refine anyS_floatV T0_ok hP hm hN (by rfl) 4 rfl rfl (by rfl) (by rfl) (by first | trivial | rfl | exact ⟨rfl, rfl⟩ | exact ⟨rfl, rfl, fun _ => rfl, Nat.le_of_ble_eq_true rfl, .inl rfl⟩ | exact ⟨rfl, rfl, fun h => (nomatch h), Nat.le_of_ble_eq_true rfl, .inl rfl⟩ | exact ⟨rfl, rfl, fun _ => rfl, Nat.le_of_ble_eq_true rfl, .inr rfl⟩ | exact ⟨rfl, rfl, fun h => (nomatch h), Nat.le_of_ble_eq_true rfl, .inr rfl⟩ | omega | exact ⟨rfl, by (repeat (first | exact fm_nil | refine fm_cons ⟨rfl, rfl⟩ ?_)), Nat.le_of_ble_eq_true rfl, Nat.le_of_ble_eq_true rfl⟩ | (refine ⟨?_, ?_, ?_, ?_, ?_, ?_, ?_⟩ <;> first | omega | exact Nat.le_of_ble_eq_true rfl) | exact ⟨rfl, by omega, by (try simp only [List.length_map, List.length_set]); omega⟩ | exact ⟨rfl, by omega, by simp only [Int.toNat_natCast]; omega, by omega, Nat.le_of_ble_eq_true rfl, rfl⟩) rfl (by rfl) (by rfl) (by rfl) ?_
      refine g1 ?_
      refine anyS_floatV T0_ok hP hm hN (by rfl) 5 rfl rfl (by rfl) (by rfl) (by first | trivial | rfl | exact ⟨rfl, rfl⟩ | exact ⟨rfl, rfl, fun _ => rfl, Nat.le_of_ble_eq_true rfl, .inl rfl⟩ | exact ⟨rfl, rfl, fun h => (nomatch h), Nat.le_of_ble_eq_true rfl, .inl rfl⟩ | exact ⟨rfl, rfl, fun _ => rfl, Nat.le_of_ble_eq_true rfl, .inr rfl⟩ | exact ⟨rfl, rfl, fun h => (nomatch h), Nat.le_of_ble_eq_true rfl, .inr rfl⟩ | omega | exact ⟨rfl, by (repeat (first | exact fm_nil | refine fm_cons ⟨rfl, rfl⟩ ?_)), Nat.le_of_ble_eq_true rfl, Nat.le_of_ble_eq_true rfl⟩ | (refine ⟨?_, ?_, ?_, ?_, ?_, ?_, ?_⟩ <;> first | omega | exact Nat.le_of_ble_eq_true rfl) | exact ⟨rfl, by omega, by (try simp only [List.length_map, List.length_set]); omega⟩ | exact ⟨rfl, by omega, by simp only [Int.toNat_natCast]; omega, by omega, Nat.le_of_ble_eq_true rfl, rfl⟩) rfl (by rfl) (by rfl) (by rfl) ?_
      refine g1 ?_
      refine anyS_floatV T0_ok hP hm hN (by rfl) 6 rfl rfl (by rfl) (by rfl) (by first | trivial | rfl | exact ⟨rfl, rfl⟩ | exact ⟨rfl, rfl, fun _ => rfl, Nat.le_of_ble_eq_true rfl, .inl rfl⟩ | exact ⟨rfl, rfl, fun h => (nomatch h), Nat.le_of_ble_eq_true rfl, .inl rfl⟩ | exact ⟨rfl, rfl, fun _ => rfl, Nat.le_of_ble_eq_true rfl, .inr rfl⟩ | exact ⟨rfl, rfl, fun h => (nomatch h), Nat.le_of_ble_eq_true rfl, .inr rfl⟩ | omega | exact ⟨rfl, by (repeat (first | exact fm_nil | refine fm_cons ⟨rfl, rfl⟩ ?_)), Nat.le_of_ble_eq_true rfl, Nat.le_of_ble_eq_true rfl⟩ | (refine ⟨?_, ?_, ?_, ?_, ?_, ?_, ?_⟩ <;> first | omega | exact Nat.le_of_ble_eq_true rfl) | exact ⟨rfl, by omega, by (try simp only [List.length_map, List.length_set]); omega⟩ | exact ⟨rfl, by omega, by simp only [Int.toNat_natCast]; omega, by omega, Nat.le_of_ble_eq_true rfl, rfl⟩) rfl (by rfl) (by rfl) (by rfl) ?_
      refine g1 ?_
      exact anyS_weak (st' := ⟨[(12, .val (.int .i64 (n.tdiv 10))), (17, .val (.int .u8 (48 + n.tmod 10)))], [], 0⟩) (by exact weak_sl (sub_cons rfl (sub_cons rfl (sub_nil)))) hS6
    · skip
      refine awp_ret ?_
      refine fin_mk [] rfl rfl ?_ trivial (by decide)
      show D.val (.string (decS n)) = _
      rw [← decS_big hge]
      rfl

noncomputable abbrev s_S_Decimal2 : Spec Int where
  args := fun n => [.val (.int .i64 n)]
  pre := fun n => 0 ≤ n ∧ n < 1000
  res := fun n => .val (.string (decS n))

set_option maxRecDepth 20000 in
set_option maxHeartbeats 1000000 in
theorem ok_S_Decimal2 : FnOk Pr 25 s_S_Decimal2 := by
  refine fn_ok 1 0 T0_ok Go.Proofs.Tryd.func25 rfl (enters_of Go.Proofs.Tryd.func25 rfl rfl) (fun _ => rfl) (fun _ => rfl) (fun _ => rfl) ?_
  rintro n ⟨hn0, hn1⟩ C hP hN hm hG
  change awp C _ _ ⟨[(0, .val (.int .i64 n))], [], 0⟩
  have hn0 : 0 ≤ n := hn0
  have hmm : 0 ≤ n.tmod 10 ∧ n.tmod 10 < 10 := by have h := tdiv_nat hn0; omega
  have hs1 : (strOfNums [48 + n.tmod 10]).size = 1 := by rw [strOfNums_size]; rfl
  have hn1 : n < 1000 := hn1
  have htd := tdiv_nat hn0
  have hs2 := decS_size4 (n := n.tdiv 10) (by omega) (by omega)
  refine awp_seq ?_
  refine r1 T0_ok hP hm hN ?_
  refine g1 ?_
  refine awp_seq ?_
  refine awp_seq ?_
  refine r1 T0_ok hP hm hN ?_
  refine g1 ?_
  refine g1 ?_
  refine awp_cond rfl (fun hc0 => ?_) (fun hc0 => ?_)
  · skip
    refine awp_seq ?_
    refine r1 T0_ok hP hm hN ?_
    refine g1 ?_
    refine g1 ?_
    refine g1 ?_
    refine g1 ?_
    refine g1 ?_
    refine gc1 ?_ (oprel_b2s T0_ok rfl [48 + n.tmod 10] rfl rfl rfl (by simp) rfl rfl rfl rfl)
    refine g1 ?_
    refine awp_ret ?_
    refine fin_mk [] rfl rfl ?_ trivial (by decide)
    show D.val (.string (decS n)) = _
    rw [← decS_small hn0 (by simpa using hc0)]
    rfl
  · skip
    have hge : 10 ≤ n := by simp at hc0; omega
    refine awp_skip ?_
    refine awp_seq ?_
    refine awp_join (st1 := ⟨[(2, .val (.string (decS (n.tdiv 10) ++ strOfNums [48 + n.tmod 10])))], [(0, ⟨5, 1, false, [[.val (.int .u8 (48 + n.tmod 10))]]⟩)], 1⟩) ?_ ?_
    · skip
      refine awp_any hP Pr_mix _ rfl 11 rfl ?_
      refine anyS_cut (fuel' := 0) (listed' := #[true, true, true, true, true, true, true, true, true, true, true]) (st' := ⟨[(2, .val (.string (decS (n.tdiv 10) ++ strOfNums [48 + n.tmod 10])))], [(0, ⟨5, 1, false, [[.val (.int .u8 (48 + n.tmod 10))]]⟩)], 1⟩) ?_ (fun hS0 => ?_)
      · skip
        refine anyS_done (by rfl) ?_
        exact ⟨rfl, rfl⟩
      refine anyS_cut (fuel' := 1) (listed' := #[true, true, true, true, true, true, true, true, true, true, false]) (st' := ⟨[(20, .val (.string (decS (n.tdiv 10) ++ strOfNums [48 + n.tmod 10])))], [(0, ⟨5, 1, false, [[.val (.int .u8 (48 + n.tmod 10))]]⟩)], 1⟩) ?_ (fun hS1 => ?_)
      · skip
        refine anyS_cons T0_ok hP hm hN (by rfl) [10] (by rfl) rfl ?_
        refine ⟨⟨_, rfl, rfl, ?_⟩, trivial⟩
        refine g1 ?_
        exact anyS_weak (st' := ⟨[(2, .val (.string (decS (n.tdiv 10) ++ strOfNums [48 + n.tmod 10])))], [(0, ⟨5, 1, false, [[.val (.int .u8 (48 + n.tmod 10))]]⟩)], 1⟩) (by exact weak_sl (sub_cons rfl (sub_nil))) hS0
      refine anyS_cut (fuel' := 3) (listed' := #[true, true, true, true, true, true, true, true, false, false, false]) (st' := ⟨[(13, .val (.string (decS (n.tdiv 10)))), (18, .own 0)], [(0, ⟨5, 1, false, [[.val (.int .u8 (48 + n.tmod 10))]]⟩)], 1⟩) ?_ (fun hS2 => ?_)
      · skip
        refine anyS_cons T0_ok hP hm hN (by rfl) [8] (by rfl) rfl ?_
        refine ⟨⟨_, rfl, rfl, ?_⟩, trivial⟩
        refine gc1 ?_ (oprel_b2s T0_ok rfl [48 + n.tmod 10] rfl rfl rfl (by simp) rfl rfl rfl rfl)
        refine anyS_floatV T0_ok hP hm hN (by rfl) 9 rfl rfl (by rfl) (by rfl) (by first | trivial | rfl | exact ⟨rfl, rfl⟩ | exact ⟨rfl, rfl, fun _ => rfl, Nat.le_of_ble_eq_true rfl, .inl rfl⟩ | exact ⟨rfl, rfl, fun h => (nomatch h), Nat.le_of_ble_eq_true rfl, .inl rfl⟩ | exact ⟨rfl, rfl, fun _ => rfl, Nat.le_of_ble_eq_true rfl, .inr rfl⟩ | exact ⟨rfl, rfl, fun h => (nomatch h), Nat.le_of_ble_eq_true rfl, .inr rfl⟩ | omega | exact ⟨rfl, by (repeat (first | exact fm_nil | refine fm_cons ⟨rfl, rfl⟩ ?_)), Nat.le_of_ble_eq_true rfl, Nat.le_of_ble_eq_true rfl⟩ | (refine ⟨?_, ?_, ?_, ?_, ?_, ?_, ?_⟩ <;> first | omega | exact Nat.le_of_ble_eq_true rfl) | exact ⟨rfl, by omega, by (try simp only [List.length_map, List.length_set]); omega⟩ | exact ⟨rfl, by omega, by simp only [Int.toNat_natCast]; omega, by omega, Nat.le_of_ble_eq_true rfl, rfl⟩) rfl (by rfl) (by rfl) (by rfl) ?_
        refine g1 ?_
        exact anyS_weak (st' := ⟨[(20, .val (.string (decS (n.tdiv 10) ++ strOfNums [48 + n.tmod 10])))], [(0, ⟨5, 1, false, [[.val (.int .u8 (48 + n.tmod 10))]]⟩)], 1⟩) (by exact weak_sl (sub_cons rfl (sub_nil))) hS1
      refine anyS_cut (fuel' := 3) (listed' := #[true, true, false, true, true, true, true, true, true, false, false]) (st' := ⟨[(12, .val (.int .i64 (n.tdiv 10))), (19, .val (.string (strOfNums [48 + n.tmod 10])))], [(0, ⟨5, 1, false, [[.val (.int .u8 (48 + n.tmod 10))]]⟩)], 1⟩) ?_ (fun hS3 => ?_)
      · skip
        refine anyS_cons T0_ok hP hm hN (by rfl) [2] (by rfl) rfl ?_
        refine ⟨⟨_, rfl, rfl, ?_⟩, trivial⟩
        refine gc1 ?_ (call1 ok_S_Decimal1 _ [] (hpre := by (try dsimp only); exact ⟨by omega, by omega⟩))
        refine anyS_floatV T0_ok hP hm hN (by rfl) 9 rfl rfl (by rfl) (by rfl) (by first | trivial | rfl | exact ⟨rfl, rfl⟩ | exact ⟨rfl, rfl, fun _ => rfl, Nat.le_of_ble_eq_true rfl, .inl rfl⟩ | exact ⟨rfl, rfl, fun h => (nomatch h), Nat.le_of_ble_eq_true rfl, .inl rfl⟩ | exact ⟨rfl, rfl, fun _ => rfl, Nat.le_of_ble_eq_true rfl, .inr rfl⟩ | exact ⟨rfl, rfl, fun h => (nomatch h), Nat.le_of_ble_eq_true rfl, .inr rfl⟩ | omega | exact ⟨rfl, by (repeat (first | exact fm_nil | refine fm_cons ⟨rfl, rfl⟩ ?_)), Nat.le_of_ble_eq_true rfl, Nat.le_of_ble_eq_true rfl⟩ | (refine ⟨?_, ?_, ?_, ?_, ?_, ?_, ?_⟩ <;> first | omega | exact Nat.le_of_ble_eq_true rfl) | exact ⟨rfl, by omega, by (try simp only [List.length_map, List.length_set]); omega⟩ | exact ⟨rfl, by omega, by simp only [Int.toNat_natCast]; omega, by omega, Nat.le_of_ble_eq_true rfl, rfl⟩) rfl (by rfl) (by rfl) (by rfl) ?_
        refine g1 ?_
        exact anyS_weak (st' := ⟨[(20, .val (.string (decS (n.tdiv 10) ++ strOfNums [48 + n.tmod 10])))], [(0, ⟨5, 1, false, [[.val (.int .u8 (48 + n.tmod 10))]]⟩)], 1⟩) (by exact weak_sl (sub_cons rfl (sub_nil))) hS1
      refine anyS_cut (fuel' := 4) (listed' := #[true, true, true, true, true, true, true, false, false, false, false]) (st' := ⟨[(13, .val (.string (decS (n.tdiv 10)))), (17, .val (.int .u8 (48 + n.tmod 10)))], [], 0⟩) ?_ (fun hS4 => ?_)
      · skip
        refine anyS_cons T0_ok hP hm hN (by rfl) [7] (by rfl) rfl ?_
        refine ⟨⟨_, rfl, rfl, ?_⟩, trivial⟩
        refine g1 ?_
        exact anyS_weak (st' := ⟨[(13, .val (.string (decS (n.tdiv 10)))), (18, .own 0)], [(0, ⟨5, 1, false, [[.val (.int .u8 (48 + n.tmod 10))]]⟩)], 1⟩) (by exact weak_sl (sub_cons rfl (sub_cons rfl (sub_nil)))) hS2
      refine anyS_cut (fuel' := 4) (listed' := #[true, true, false, true, true, true, true, true, false, false, false]) (st' := ⟨[(12, .val (.int .i64 (n.tdiv 10))), (18, .own 0)], [(0, ⟨5, 1, false, [[.val (.int .u8 (48 + n.tmod 10))]]⟩)], 1⟩) ?_ (fun hS5 => ?_)
      · skip
        refine anyS_cons T0_ok hP hm hN (by rfl) [2, 8] (by rfl) rfl ?_
        refine ⟨⟨_, rfl, rfl, ?_⟩, ?_⟩
        · skip
          refine gc1 ?_ (call1 ok_S_Decimal1 _ [] (hpre := by (try dsimp only); exact ⟨by omega, by omega⟩))
          exact anyS_weak (st' := ⟨[(13, .val (.string (decS (n.tdiv 10)))), (18, .own 0)], [(0, ⟨5, 1, false, [[.val (.int .u8 (48 + n.tmod 10))]]⟩)], 1⟩) (by exact weak_sl (sub_cons rfl (sub_cons rfl (sub_nil)))) hS2
        refine ⟨⟨_, rfl, rfl, ?_⟩, trivial⟩
        refine gc1 ?_ (oprel_b2s T0_ok rfl [48 + n.tmod 10] rfl rfl rfl (by simp) rfl rfl rfl rfl)
        exact anyS_weak (st' := ⟨[(12, .val (.int .i64 (n.tdiv 10))), (19, .val (.string (strOfNums [48 + n.tmod 10])))], [(0, ⟨5, 1, false, [[.val (.int .u8 (48 + n.tmod 10))]]⟩)], 1⟩) (by exact weak_sl (sub_cons rfl (sub_cons rfl (sub_nil)))) hS3
      refine anyS_cut (fuel' := 5) (listed' := #[true, true, false, true, true, true, true, false, false, false, false]) (st' := ⟨[(12, .val (.int .i64 (n.tdiv 10))), (17, .val (.int .u8 (48 + n.tmod 10)))], [], 0⟩) ?_ (fun hS6 => ?_)
      · skip
        refine anyS_cons T0_ok hP hm hN (by rfl) [2, 7] (by rfl) rfl ?_
        refine ⟨⟨_, rfl, rfl, ?_⟩, ?_⟩
        · skip
          refine gc1 ?_ (call1 ok_S_Decimal1 _ [] (hpre := by (try dsimp only); exact ⟨by omega, by omega⟩))
          exact anyS_weak (st' := ⟨[(13, .val (.string (decS (n.tdiv 10)))), (17, .val (.int .u8 (48 + n.tmod 10)))], [], 0⟩) (by exact weak_sl (sub_cons rfl (sub_cons rfl (sub_nil)))) hS4
        refine ⟨⟨_, rfl, rfl, ?_⟩, trivial⟩
        refine g1 ?_
        exact anyS_weak (st' := ⟨[(12, .val (.int .i64 (n.tdiv 10))), (18, .own 0)], [(0, ⟨5, 1, false, [[.val (.int .u8 (48 + n.tmod 10))]]⟩)], 1⟩) (by exact weak_sl (sub_cons rfl (sub_cons rfl (sub_nil)))) hS5
      refine anyS_float T0_ok hP hm hN (by rfl) 0 rfl rfl rfl (by rfl) (by rfl) (by rfl) ?_
      refine g1 ?_
      refine anyS_floatV T0_ok hP hm hN (by rfl) 1 rfl rfl (by rfl) (by rfl) (by first | trivial | rfl | exact ⟨rfl, rfl⟩ | exact ⟨rfl, rfl, fun _ => rfl, Nat.le_of_ble_eq_true rfl, .inl rfl⟩ | exact ⟨rfl, rfl, fun h => (nomatch h), Nat.le_of_ble_eq_true rfl, .inl rfl⟩ | exact ⟨rfl, rfl, fun _ => rfl, Nat.le_of_ble_eq_true rfl, .inr rfl⟩ | exact ⟨rfl, rfl, fun h => (nomatch h), Nat.le_of_ble_eq_true rfl, .inr rfl⟩ | omega | exact ⟨rfl, by (repeat (first | exact fm_nil | refine fm_cons ⟨rfl, rfl⟩ ?_)), Nat.le_of_ble_eq_true rfl, Nat.le_of_ble_eq_true rfl⟩ | (refine ⟨?_, ?_, ?_, ?_, ?_, ?_, ?_⟩ <;> first | omega | exact Nat.le_of_ble_eq_true rfl) | exact ⟨rfl, by omega, by (try simp only [List.length_map, List.length_set]); omega⟩ | exact ⟨rfl, by omega, by simp only [Int.toNat_natCast]; omega, by omega, Nat.le_of_ble_eq_true rfl, rfl⟩) rfl (by rfl) (by rfl) (by rfl) ?_
      refine g1 ?_
      refine anyS_float T0_ok hP hm hN (by rfl) 3 rfl rfl rfl (by rfl) (by rfl) (by rfl) ?_
      refine g1 ?_
      refine anyS_floatV T0_ok hP hm hN (by rfl) 4 rfl rfl (by rfl) (by rfl) (by first | trivial | rfl | exact ⟨rfl, rfl⟩ | exact ⟨rfl, rfl, fun _ => rfl, Nat.le_of_ble_eq_true rfl, .inl rfl⟩ | exact ⟨rfl, rfl, fun h => (nomatch h), Nat.le_of_ble_eq_true rfl, .inl rfl⟩ | exact ⟨rfl, rfl, fun _ => rfl, Nat.le_of_ble_eq_true rfl, .inr rfl⟩ | exact ⟨rfl, rfl, fun h => (nomatch h), Nat.le_of_ble_eq_true rfl, .inr rfl⟩ | omega | exact ⟨rfl, by (repeat (first | exact fm_nil | refine fm_cons ⟨rfl, rfl⟩ ?_)), Nat.le_of_ble_eq_true rfl, Nat.le_of_ble_eq_true rfl⟩ | (refine ⟨?_, ?_, ?_, ?_, ?_, ?_, ?_⟩ <;> first | omega | exact Nat.le_of_ble_eq_true rfl) | exact ⟨rfl, by omega, by (try simp only [List.length_map, List.length_set]); omega⟩ | exact ⟨rfl, by omega, by simp only [Int.toNat_natCast]; omega, by omega, Nat.le_of_ble_eq_true rfl, rfl⟩) rfl (by rfl) (by rfl) (by rfl) ?_
      refine g1 ?_
      refine anyS_floatV T0_ok hP hm hN (by rfl) 5 rfl rfl (by rfl) (by rfl) (by first | trivial | rfl | exact ⟨rfl, rfl⟩ | exact ⟨rfl, rfl, fun _ => rfl, Nat.le_of_ble_eq_true rfl, .inl rfl⟩ | exact ⟨rfl, rfl, fun h => (nomatch h), Nat.le_of_ble_eq_true rfl, .inl rfl⟩ | exact ⟨rfl, rfl, fun _ => rfl, Nat.le_of_ble_eq_true rfl, .inr rfl⟩ | exact ⟨rfl, rfl, fun h => (nomatch h), Nat.le_of_ble_eq_true rfl, .inr rfl⟩ | omega | exact ⟨rfl, by (repeat (first | exact fm_nil | refine fm_cons ⟨rfl, rfl⟩ ?_)), Nat.le_of_ble_eq_true rfl, Nat.le_of_ble_eq_true rfl⟩ | (refine ⟨?_, ?_, ?_, ?_, ?_, ?_, ?_⟩ <;> first | omega | exact Nat.le_of_ble_eq_true rfl) | exact ⟨rfl, by omega, by (try simp only [List.length_map, List.length_set]); omega⟩ | exact ⟨rfl, by omega, by simp only [Int.toNat_natCast]; omega, by omega, Nat.le_of_ble_eq_true rfl, rfl⟩) rfl (by rfl) (by rfl) (by rfl) ?_
      refine g1 ?_
      refine anyS_floatV T0_ok hP hm hN (by rfl) 6 rfl rfl (by rfl) (by rfl) (by first | trivial | rfl | exact ⟨rfl, rfl⟩ | exact ⟨rfl, rfl, fun _ => rfl, Nat.le_of_ble_eq_true rfl, .inl rfl⟩ | exact ⟨rfl, rfl, fun h => (nomatch h), Nat.le_of_ble_eq_true rfl, .inl rfl⟩ | exact ⟨rfl, rfl, fun _ => rfl, Nat.le_of_ble_eq_true rfl, .inr rfl⟩ | exact ⟨rfl, rfl, fun h => (nomatch h), Nat.le_of_ble_eq_true rfl, .inr rfl⟩ | omega | exact ⟨rfl, by (repeat (first | exact fm_nil | refine fm_cons ⟨rfl, rfl⟩ ?_)), Nat.le_of_ble_eq_true rfl, Nat.le_of_ble_eq_true rfl⟩ | (refine ⟨?_, ?_, ?_, ?_, ?_, ?_, ?_⟩ <;> first | omega | exact Nat.le_of_ble_eq_true rfl) | exact ⟨rfl, by omega, by (try simp only [List.length_map, List.length_set]); omega⟩ | exact ⟨rfl, by omega, by simp only [Int.toNat_natCast]; omega, by omega, Nat.le_of_ble_eq_true rfl, rfl⟩) rfl (by rfl) (by rfl) (by rfl) ?_
      refine g1 ?_
      exact anyS_weak (st' := ⟨[(12, .val (.int .i64 (n.tdiv 10))), (17, .val (.int .u8 (48 + n.tmod 10)))], [], 0⟩) (by exact weak_sl (sub_cons rfl (sub_cons rfl (sub_nil)))) hS6
    · skip
      refine awp_ret ?_
      refine fin_mk [] rfl rfl ?_ trivial (by decide)
      show D.val (.string (decS n)) = _
      rw [← decS_big hge]
      rfl

noncomputable abbrev s_S_Decimal : Spec Int where
  args := fun n => [.val (.int .i64 n)]
  pre := fun n => 0 ≤ n ∧ n < 10000
  res := fun n => .val (.string (decS n))

set_option maxRecDepth 20000 in
set_option maxHeartbeats 1000000 in
theorem ok_S_Decimal : FnOk Pr 25 s_S_Decimal := by
  refine fn_ok 1 0 T0_ok Go.Proofs.Tryd.func25 rfl (enters_of Go.Proofs.Tryd.func25 rfl rfl) (fun _ => rfl) (fun _ => rfl) (fun _ => rfl) ?_
  rintro n ⟨hn0, hn1⟩ C hP hN hm hG
  change awp C _ _ ⟨[(0, .val (.int .i64 n))], [], 0⟩
  have hn0 : 0 ≤ n := hn0
  have hmm : 0 ≤ n.tmod 10 ∧ n.tmod 10 < 10 := by have h := tdiv_nat hn0; omega
  have hs1 : (strOfNums [48 + n.tmod 10]).size = 1 := by rw [strOfNums_size]; rfl
  have hn1 : n < 10000 := hn1
  have htd := tdiv_nat hn0
  have hs2 := decS_size4 (n := n.tdiv 10) (by omega) (by omega)
  refine awp_seq ?_
  refine r1 T0_ok hP hm hN ?_
  refine g1 ?_
  refine awp_seq ?_
  refine awp_seq ?_
  refine r1 T0_ok hP hm hN ?_
  refine g1 ?_
  refine g1 ?_
  refine awp_cond rfl (fun hc0 => ?_) (fun hc0 => ?_)
  · skip
    refine awp_seq ?_
    refine r1 T0_ok hP hm hN ?_
    refine g1 ?_
    refine g1 ?_
    refine g1 ?_
    refine g1 ?_
    refine g1 ?_
    refine gc1 ?_ (oprel_b2s T0_ok rfl [48 + n.tmod 10] rfl rfl rfl (by simp) rfl rfl rfl rfl)
    refine g1 ?_
    refine awp_ret ?_
    refine fin_mk [] rfl rfl ?_ trivial (by decide)
    show D.val (.string (decS n)) = _
    rw [← decS_small hn0 (by simpa using hc0)]
    rfl
  · skip
    have hge : 10 ≤ n := by simp at hc0; omega
    refine awp_skip ?_
    refine awp_seq ?_
    refine awp_join (st1 := ⟨[(2, .val (.string (decS (n.tdiv 10) ++ strOfNums [48 + n.tmod 10])))], [(0, ⟨5, 1, false, [[.val (.int .u8 (48 + n.tmod 10))]]⟩)], 1⟩) ?_ ?_
    · skip
      refine awp_any hP Pr_mix _ rfl 11 rfl ?_
      refine anyS_cut (fuel' := 0) (listed' := #[true, true, true, true, true, true, true, true, true, true, true]) (st' := ⟨[(2, .val (.string (decS (n.tdiv 10) ++ strOfNums [48 + n.tmod 10])))], [(0, ⟨5, 1, false, [[.val (.int .u8 (48 + n.tmod 10))]]⟩)], 1⟩) ?_ (fun hS0 => ?_)
      · skip
        refine anyS_done (by rfl) ?_
        exact ⟨rfl, rfl⟩
      refine anyS_cut (fuel' := 1) (listed' := #[true, true, true, true, true, true, true, true, true, true, false]) (st' := ⟨[(20, .val (.string (decS (n.tdiv 10) ++ strOfNums [48 + n.tmod 10])))], [(0, ⟨5, 1, false, [[.val (.int .u8 (48 + n.tmod 10))]]⟩)], 1⟩) ?_ (fun hS1 => ?_)
      · skip
        refine anyS_cons T0_ok hP hm hN (by rfl) [10] (by rfl) rfl ?_
        refine ⟨⟨_, rfl, rfl, ?_⟩, trivial⟩
        refine g1 ?_
        exact anyS_weak (st' := ⟨[(2, .val (.string (decS (n.tdiv 10) ++ strOfNums [48 + n.tmod 10])))], [(0, ⟨5, 1, false, [[.val (.int .u8 (48 + n.tmod 10))]]⟩)], 1⟩) (by exact weak_sl (sub_cons rfl (sub_nil))) hS0
      refine anyS_cut (fuel' := 3) (listed' := #[true, true, true, true, true, true, true, true, false, false, false]) (st' := ⟨[(13, .val (.string (decS (n.tdiv 10)))), (18, .own 0)], [(0, ⟨5, 1, false, [[.val (.int .u8 (48 + n.tmod 10))]]⟩)], 1⟩) ?_ (fun hS2 => ?_)
      · skip
        refine anyS_cons T0_ok hP hm hN (by rfl) [8] (by rfl) rfl ?_
        refine ⟨⟨_, rfl, rfl, ?_⟩, trivial⟩
        refine gc1 ?_ (oprel_b2s T0_ok rfl [48 + n.tmod 10] rfl rfl rfl (by simp) rfl rfl rfl rfl)
        refine anyS_floatV T0_ok hP hm hN (by rfl) 9 rfl rfl (by rfl) (by rfl) (by first | trivial | rfl | exact ⟨rfl, rfl⟩ | exact ⟨rfl, rfl, fun _ => rfl, Nat.le_of_ble_eq_true rfl, .inl rfl⟩ | exact ⟨rfl, rfl, fun h => (nomatch h), Nat.le_of_ble_eq_true rfl, .inl rfl⟩ | exact ⟨rfl, rfl, fun _ => rfl, Nat.le_of_ble_eq_true rfl, .inr rfl⟩ | exact ⟨rfl, rfl, fun h => (nomatch h), Nat.le_of_ble_eq_true rfl, .inr rfl⟩ | omega | exact ⟨rfl, by (repeat (first | exact fm_nil | refine fm_cons ⟨rfl, rfl⟩ ?_)), Nat.le_of_ble_eq_true rfl, Nat.le_of_ble_eq_true rfl⟩ | (refine ⟨?_, ?_, ?_, ?_, ?_, ?_, ?_⟩ <;> first | omega | exact Nat.le_of_ble_eq_true rfl) | exact ⟨rfl, by omega, by (try simp only [List.length_map, List.length_set]); omega⟩ | exact ⟨rfl, by omega, by simp only [Int.toNat_natCast]; omega, by omega, Nat.le_of_ble_eq_true rfl, rfl⟩) rfl (by rfl) (by rfl) (by rfl) ?_
        refine g1 ?_
        exact anyS_weak (st' := ⟨[(20, .val (.string (decS (n.tdiv 10) ++ strOfNums [48 + n.tmod 10])))], [(0, ⟨5, 1, false, [[.val (.int .u8 (48 + n.tmod 10))]]⟩)], 1⟩) (by exact weak_sl (sub_cons rfl (sub_nil))) hS1
      refine anyS_cut (fuel' := 3) (listed' := #[true, true, false, true, true, true, true, true, true, false, false]) (st' := ⟨[(12, .val (.int .i64 (n.tdiv 10))), (19, .val (.string (strOfNums [48 + n.tmod 10])))], [(0, ⟨5, 1, false, [[.val (.int .u8 (48 + n.tmod 10))]]⟩)], 1⟩) ?_ (fun hS3 => ?_)
      · skip
        refine anyS_cons T0_ok hP hm hN (by rfl) [2] (by rfl) rfl ?_
        refine ⟨⟨_, rfl, rfl, ?_⟩, trivial⟩
        refine gc1 ?_ (call1 ok_S_Decimal2 _ [] (hpre := by (try dsimp only); exact ⟨by omega, by omega⟩))
        refine anyS_floatV T0_ok hP hm hN (by rfl) 9 rfl rfl (by rfl) (by rfl) (by first | trivial | rfl | exact ⟨rfl, rfl⟩ | exact ⟨rfl, rfl, fun _ => rfl, Nat.le_of_ble_eq_true rfl, .inl rfl⟩ | exact ⟨rfl, rfl, fun h => (nomatch h), Nat.le_of_ble_eq_true rfl, .inl rfl⟩ | exact ⟨rfl, rfl, fun _ => rfl, Nat.le_of_ble_eq_true rfl, .inr rfl⟩ | exact ⟨rfl, rfl, fun h => (nomatch h), Nat.le_of_ble_eq_true rfl, .inr rfl⟩ | omega | exact ⟨rfl, by (repeat (first | exact fm_nil | refine fm_cons ⟨rfl, rfl⟩ ?_)), Nat.le_of_ble_eq_true rfl, Nat.le_of_ble_eq_true rfl⟩ | (refine ⟨?_, ?_, ?_, ?_, ?_, ?_, ?_⟩ <;> first | omega | exact Nat.le_of_ble_eq_true rfl) | exact ⟨rfl, by omega, by (try simp only [List.length_map, List.length_set]); omega⟩ | exact ⟨rfl, by omega, by simp only [Int.toNat_natCast]; omega, by omega, Nat.le_of_ble_eq_true rfl, rfl⟩) rfl (by rfl) (by rfl) (by rfl) ?_
        refine g1 ?_
        exact anyS_weak (st' := ⟨[(20, .val (.string (decS (n.tdiv 10) ++ strOfNums [48 + n.tmod 10])))], [(0, ⟨5, 1, false, [[.val (.int .u8 (48 + n.tmod 10))]]⟩)], 1⟩) (by exact weak_sl (sub_cons rfl (sub_nil))) hS1
      refine anyS_cut (fuel' := 4) (listed' := #[true, true, true, true, true, true, true, false, false, false, false]) (st' := ⟨[(13, .val (.string (decS (n.tdiv 10)))), (17, .val (.int .u8 (48 + n.tmod 10)))], [], 0⟩) ?_ (fun hS4 => ?_)
      · skip
        refine anyS_cons T0_ok hP hm hN (by rfl) [7] (by rfl) rfl ?_
        refine ⟨⟨_, rfl, rfl, ?_⟩, trivial⟩
        refine g1 ?_
        exact anyS_weak (st' := ⟨[(13, .val (.string (decS (n.tdiv 10)))), (18, .own 0)], [(0, ⟨5, 1, false, [[.val (.int .u8 (48 + n.tmod 10))]]⟩)], 1⟩) (by exact weak_sl (sub_cons rfl (sub_cons rfl (sub_nil)))) hS2
      refine anyS_cut (fuel' := 4) (listed' := #[true, true, false, true, true, true, true, true, false, false, false]) (st' := ⟨[(12, .val (.int .i64 (n.tdiv 10))), (18, .own 0)], [(0, ⟨5, 1, false, [[.val (.int .u8 (48 + n.tmod 10))]]⟩)], 1⟩) ?_ (fun hS5 => ?_)
      · skip
        refine anyS_cons T0_ok hP hm hN (by rfl) [2, 8] (by rfl) rfl ?_
        refine ⟨⟨_, rfl, rfl, ?_⟩, ?_⟩
        · skip
          refine gc1 ?_ (call1 ok_S_Decimal2 _ [] (hpre := by (try dsimp only); exact ⟨by omega, by omega⟩))
          exact anyS_weak (st' := ⟨[(13, .val (.string (decS (n.tdiv 10)))), (18, .own 0)], [(0, ⟨5, 1, false, [[.val (.int .u8 (48 + n.tmod 10))]]⟩)], 1⟩) (by exact weak_sl (sub_cons rfl (sub_cons rfl (sub_nil)))) hS2
        refine ⟨⟨_, rfl, rfl, ?_⟩, trivial⟩
        refine gc1 ?_ (oprel_b2s T0_ok rfl [48 + n.tmod 10] rfl rfl rfl (by simp) rfl rfl rfl rfl)
        exact anyS_weak (st' := ⟨[(12, .val (.int .i64 (n.tdiv 10))), (19, .val (.string (strOfNums [48 + n.tmod 10])))], [(0, ⟨5, 1, false, [[.val (.int .u8 (48 + n.tmod 10))]]⟩)], 1⟩) (by exact weak_sl (sub_cons rfl (sub_cons rfl (sub_nil)))) hS3
      refine anyS_cut (fuel' := 5) (listed' := #[true, true, false, true, true, true, true, false, false, false, false]) (st' := ⟨[(12, .val (.int .i64 (n.tdiv 10))), (17, .val (.int .u8 (48 + n.tmod 10)))], [], 0⟩) ?_ (fun hS6 => ?_)
      · skip
        refine anyS_cons T0_ok hP hm hN (by rfl) [2, 7] (by rfl) rfl ?_
        refine ⟨⟨_, rfl, rfl, ?_⟩, ?_⟩
        · skip
          refine gc1 ?_ (call1 ok_S_Decimal2 _ [] (hpre := by (try dsimp only); exact ⟨by omega, by omega⟩))
          exact anyS_weak (st' := ⟨[(13, .val (.string (decS (n.tdiv 10)))), (17, .val (.int .u8 (48 + n.tmod 10)))], [], 0⟩) (by exact weak_sl (sub_cons rfl (sub_cons rfl (sub_nil)))) hS4
        refine ⟨⟨_, rfl, rfl, ?_⟩, trivial⟩
        refine g1 ?_
        exact anyS_weak (st' := ⟨[(12, .val (.int .i64 (n.tdiv 10))), (18, .own 0)], [(0, ⟨5, 1, false, [[.val (.int .u8 (48 + n.tmod 10))]]⟩)], 1⟩) (by exact weak_sl (sub_cons rfl (sub_cons rfl (sub_nil)))) hS5
      refine anyS_float T0_ok hP hm hN (by rfl) 0 rfl rfl rfl (by rfl) (by rfl) (by rfl) ?_
      refine g1 ?_
      refine anyS_floatV T0_ok hP hm hN (by rfl) 1 rfl rfl (by rfl) (by rfl) (by first | trivial | rfl | exact ⟨rfl, rfl⟩ | exact ⟨rfl, rfl, fun _ => rfl, Nat.le_of_ble_eq_true rfl, .inl rfl⟩ | exact ⟨rfl, rfl, fun h => (nomatch h), Nat.le_of_ble_eq_true rfl, .inl rfl⟩ | exact ⟨rfl, rfl, fun _ => rfl, Nat.le_of_ble_eq_true rfl, .inr rfl⟩ | exact ⟨rfl, rfl, fun h => (nomatch h), Nat.le_of_ble_eq_true rfl, .inr rfl⟩ | omega | exact ⟨rfl, by (repeat (first | exact fm_nil | refine fm_cons ⟨rfl, rfl⟩ ?_)), Nat.le_of_ble_eq_true rfl, Nat.le_of_ble_eq_true rfl⟩ | (refine ⟨?_, ?_, ?_, ?_, ?_, ?_, ?_⟩ <;> first | omega | exact Nat.le_of_ble_eq_true rfl) | exact ⟨rfl, by omega, by (try simp only [List.length_map, List.length_set]); omega⟩ | exact ⟨rfl, by omega, by simp only [Int.toNat_natCast]; omega, by omega, Nat.le_of_ble_eq_true rfl, rfl⟩) rfl (by rfl) (by rfl) (by rfl) ?_
      refine g1 ?_
      refine anyS_float T0_ok hP hm hN (by rfl) 3 rfl rfl rfl (by rfl) (by rfl) (by rfl) ?_
      refine g1 ?_
      refine anyS_floatV T0_ok hP hm hN (by rfl) 4 rfl rfl (by rfl) (by rfl) (by first | trivial | rfl | exact ⟨rfl, rfl⟩ | exact ⟨rfl, rfl, fun _ => rfl, Nat.le_of_ble_eq_true rfl, .inl rfl⟩ | exact ⟨rfl, rfl, fun h => (nomatch h), Nat.le_of_ble_eq_true rfl, .inl rfl⟩ | exact ⟨rfl, rfl, fun _ => rfl, Nat.le_of_ble_eq_true rfl, .inr rfl⟩ | exact ⟨rfl, rfl, fun h => (nomatch h), Nat.le_of_ble_eq_true rfl, .inr rfl⟩ | omega | exact ⟨rfl, by (repeat (first | exact fm_nil | refine fm_cons ⟨rfl, rfl⟩ ?_)), Nat.le_of_ble_eq_true rfl, Nat.le_of_ble_eq_true rfl⟩ | (refine ⟨?_, ?_, ?_, ?_, ?_, ?_, ?_⟩ <;> first | omega | exact Nat.le_of_ble_eq_true rfl) | exact ⟨rfl, by omega, by (try simp only [List.length_map, List.length_set]); omega⟩ | exact ⟨rfl, by omega, by simp only [Int.toNat_natCast]; omega, by omega, Nat.le_of_ble_eq_true rfl, rfl⟩) rfl (by rfl) (by rfl) (by rfl) ?_
      refine g1 ?_
      refine anyS_floatV T0_ok hP hm hN (by rfl) 5 rfl rfl (by rfl) (by rfl) (by first | trivial | rfl | exact ⟨rfl, rfl⟩ | exact ⟨rfl, rfl, fun _ => rfl, Nat.le_of_ble_eq_true rfl, .inl rfl⟩ | exact ⟨rfl, rfl, fun h => (nomatch h), Nat.le_of_ble_eq_true rfl, .inl rfl⟩ | exact ⟨rfl, rfl, fun _ => rfl, Nat.le_of_ble_eq_true rfl, .inr rfl⟩ | exact ⟨rfl, rfl, fun h => (nomatch h), Nat.le_of_ble_eq_true rfl, .inr rfl⟩ | omega | exact ⟨rfl, by (repeat (first | exact fm_nil | refine fm_cons ⟨rfl, rfl⟩ ?_)), Nat.le_of_ble_eq_true rfl, Nat.le_of_ble_eq_true rfl⟩ | (refine ⟨?_, ?_, ?_, ?_, ?_, ?_, ?_⟩ <;> first | omega | exact Nat.le_of_ble_eq_true rfl) | exact ⟨rfl, by omega, by (try simp only [List.length_map, List.length_set]); omega⟩ | exact ⟨rfl, by omega, by simp only [Int.toNat_natCast]; omega, by omega, Nat.le_of_ble_eq_true rfl, rfl⟩) rfl (by rfl) (by rfl) (by rfl) ?_
      refine g1 ?_
      refine anyS_floatV T0_ok hP hm hN (by rfl) 6 rfl rfl (by rfl) (by rfl) (by first | trivial | rfl | exact ⟨rfl, rfl⟩ | exact ⟨rfl, rfl, fun _ => rfl, Nat.le_of_ble_eq_true rfl, .inl rfl⟩ | exact ⟨rfl, rfl, fun h => (nomatch h), Nat.le_of_ble_eq_true rfl, .inl rfl⟩ | exact ⟨rfl, rfl, fun _ => rfl, Nat.le_of_ble_eq_true rfl, .inr rfl⟩ | exact ⟨rfl, rfl, fun h => (nomatch h), Nat.le_of_ble_eq_true rfl, .inr rfl⟩ | omega | exact ⟨rfl, by (repeat (first | exact fm_nil | refine fm_cons ⟨rfl, rfl⟩ ?_)), Nat.le_of_ble_eq_true rfl, Nat.le_of_ble_eq_true rfl⟩ | (refine ⟨?_, ?_, ?_, ?_, ?_, ?_, ?_⟩ <;> first | omega | exact Nat.le_of_ble_eq_true rfl) | exact ⟨rfl, by omega, by (try simp only [List.length_map, List.length_set]); omega⟩ | exact ⟨rfl, by omega, by simp only [Int.toNat_natCast]; omega, by omega, Nat.le_of_ble_eq_true rfl, rfl⟩) rfl (by rfl) (by rfl) (by rfl) ?_
      refine g1 ?_
      exact anyS_weak (st' := ⟨[(12, .val (.int .i64 (n.tdiv 10))), (17, .val (.int .u8 (48 + n.tmod 10)))], [], 0⟩) (by exact weak_sl (sub_cons rfl (sub_cons rfl (sub_nil)))) hS6
    · skip
      refine awp_ret ?_
      refine fin_mk [] rfl rfl ?_ trivial (by decide)
      show D.val (.string (decS n)) = _
      rw [← decS_big hge]
      rfl
end Go.Proofs.YtbgapcmdigcejaaDoor.Abs
