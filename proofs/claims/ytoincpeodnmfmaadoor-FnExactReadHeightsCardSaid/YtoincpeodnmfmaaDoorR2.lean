import Derived.Test.YtoincpeodnmfmaaDoorR1
set_option linter.unusedVariables false
set_option linter.unusedSimpArgs false
namespace Go.Proofs.YtoincpeodnmfmaaDoor.Abs
open Go Go.RowKit
theorem areg_notU {m : Nat} {ops l : List Oper} {st st' : St} {K : St → Prop} {dst : Option Tmp} {op : Op} {ty : TypeId} {pos : String} {af : Array Edge} {j : Nat} {want : Bool} (hg : guardD ops j st.sl = none) (hu : guardU ops j st.sl = true) (hst : St.mk (putSl dst (.val undef) st.sl) st.hp st.nx = st') (hK : areg Pr T0 m ops l st' K) : areg Pr T0 m ops ({ dst := dst, op := op, type := ty, pos := pos, after := af, guard := some (j, want) } :: l) st K := by
  simp only [areg, hg]
  exact ⟨hu, by rw [hst]; exact hK⟩
theorem pick_and2 (t x : Bool) : (if t = true then gd (t == true) true (.val (.bool x)) else .val (.bool false)) = .val (.bool (t && x)) := by cases t <;> rfl

theorem ba_nil (s : ByteArray) : (s.toList == ByteArray.toList { data := #[] }) = decide (s.data.toList.length = 0) := by
  rw [ba_list, ba_list, Bool.eq_iff_iff, beq_iff_eq, decide_eq_true_eq]
  exact ⟨fun h => by rw [h]; rfl, fun h => List.eq_nil_of_length_eq_zero h⟩
theorem dig_iff (b : UInt8) : (decide ((b.toNat : Int) < 48) || decide ((b.toNat : Int) > 57)) = !isDig b := by
  rw [Bool.eq_iff_iff]
  simp only [isDig, Bool.or_eq_true, decide_eq_true_eq, Bool.not_eq_true', Bool.and_eq_false_iff, decide_eq_false_iff_not]
  omega
theorem numR_no {s : Bs} (h : numOk s = false) : numR s = (0, false) := by rw [numR, h]; rfl
theorem numR_yes {s : Bs} (h : numOk s = true) : numR s = ((valL s : Int), true) := by rw [numR, h]; rfl
theorem getD_mem3 {l : Bs} {j : Nat} (h : j < l.length) : l.getD j 0 ∈ l := by rw [getD_at l j h]; exact List.getElem_mem h
theorem all_dig {l : Bs} (h : ∀ j, j < l.length → isDig (l.getD j 0) = true) : l.all isDig = true := by
  rw [List.all_eq_true]
  intro b hb
  obtain ⟨j, hj, rfl⟩ := List.getElem_of_mem hb
  rw [← getD_at l j hj]; exact h j hj
theorem take_dig {l : Bs} {i : Nat} (hi : i ≤ l.length) (h : ∀ j, j < i → isDig (l.getD j 0) = true) : (l.take i).all isDig = true := by
  refine all_dig fun j hj => ?_
  rw [List.length_take] at hj
  have e : (l.take i).getD j 0 = l.getD j 0 := by simp [List.getD, List.getElem?_take, show j < i by omega]
  rw [e]; exact h j (by omega)

noncomputable abbrev s_S_l01Number : Spec ByteArray where
  args := fun s => [.val (.string s)]
  pre := fun s => s.size ≤ 1048576
  res := fun s => .tup [.val (.int .i64 (numR s.data.toList).1), .val (.bool (numR s.data.toList).2)]

set_option maxRecDepth 20000 in
set_option maxHeartbeats 4000000 in
theorem ok_S_l01Number : FnOk Pr 17 s_S_l01Number := by
  refine fn_ok 1 0 T0_ok Go.Proofs.Tryd.func17 rfl (enters_of Go.Proofs.Tryd.func17 rfl rfl) (fun _ => rfl) (fun _ => rfl) (fun _ => rfl) ?_
  rintro s hs C hP hN hm hG
  change awp C _ _ ⟨[(0, .val (.string s))], [], 0⟩
  have hs : s.size ≤ 1048576 := hs
  have hsl : s.size = s.data.toList.length := rfl
  refine awp_seq ?_
  refine r1 T0_ok hP hm hN ?_
  refine g1 ?_
  refine g1 ?_
  refine awp_seq ?_
  refine awp_seq ?_
  refine r1 T0_ok hP hm hN ?_
  refine g1 ?_
  refine g1 ?_
  refine g1 ?_
  refine gg1 ?_
  refine gg1 ?_
  refine gg1 ?_
  refine g1 ?_
  refine g1 ?_
  cases h0 : ((s.toList == ByteArray.toList { data := #[] }) || decide ((s.size : Int) > 9))
  · skip
    rw [ba_nil] at h0
    simp only [Bool.or_eq_false_iff, decide_eq_false_iff_not] at h0
    refine gy1 ?_
    refine gy1 ?_ (hpre := by exact ⟨by omega, by omega⟩)
    refine gy1 ?_
    refine gy1 ?_
    cases h1 : (((s.data.toList.getD (0 : Int).toNat 0).toNat : Int) == 48)
    · skip
      first | refine areg_not rfl rfl (by simp +decide (disch := omega) only [nrm, lk_nrm, dc_nrm, mk_nrm, mf_nrm, ti_nrm, ls_nrm, mp_nrm, nb_nrm, hset, pick_and, pick_or, ↓reduceIte, Nat.reduceAdd, wI64, wI32, wI16, wI8, wU8, List.length_map, Int.toNat_natCast]; rfl) ?_ | refine areg_notU rfl rfl (by simp +decide (disch := omega) only [nrm, lk_nrm, dc_nrm, mk_nrm, mf_nrm, ti_nrm, ls_nrm, mp_nrm, nb_nrm, hset, pick_and, pick_or, ↓reduceIte, Nat.reduceAdd, wI64, wI32, wI16, wI8, wU8, List.length_map, Int.toNat_natCast]; rfl) ?_
      first | refine areg_not rfl rfl (by simp +decide (disch := omega) only [nrm, lk_nrm, dc_nrm, mk_nrm, mf_nrm, ti_nrm, ls_nrm, mp_nrm, nb_nrm, hset, pick_and, pick_or, ↓reduceIte, Nat.reduceAdd, wI64, wI32, wI16, wI8, wU8, List.length_map, Int.toNat_natCast]; rfl) ?_ | refine areg_notU rfl rfl (by simp +decide (disch := omega) only [nrm, lk_nrm, dc_nrm, mk_nrm, mf_nrm, ti_nrm, ls_nrm, mp_nrm, nb_nrm, hset, pick_and, pick_or, ↓reduceIte, Nat.reduceAdd, wI64, wI32, wI16, wI8, wU8, List.length_map, Int.toNat_natCast]; rfl) ?_
      first | refine areg_not rfl rfl (by simp +decide (disch := omega) only [nrm, lk_nrm, dc_nrm, mk_nrm, mf_nrm, ti_nrm, ls_nrm, mp_nrm, nb_nrm, hset, pick_and, pick_or, ↓reduceIte, Nat.reduceAdd, wI64, wI32, wI16, wI8, wU8, List.length_map, Int.toNat_natCast]; rfl) ?_ | refine areg_notU rfl rfl (by simp +decide (disch := omega) only [nrm, lk_nrm, dc_nrm, mk_nrm, mf_nrm, ti_nrm, ls_nrm, mp_nrm, nb_nrm, hset, pick_and, pick_or, ↓reduceIte, Nat.reduceAdd, wI64, wI32, wI16, wI8, wU8, List.length_map, Int.toNat_natCast]; rfl) ?_
      refine gy1 ?_
      refine g1 ?_
      refine awp_cond rfl (fun hc0 => ?_) (fun hc0 => ?_)
      · skip
        exfalso; simp at hc0
      · skip
        refine awp_skip ?_
        refine awp_seq ?_
        refine r1 T0_ok hP hm hN ?_
        refine g1 ?_
        refine awp_seq ?_
        refine awp_seq ?_
        refine r1 T0_ok hP hm hN ?_
        refine g1 ?_
        refine awp_block ?_
        refine awp_loop (fun n st => ∃ i : Nat, i ≤ s.size ∧ (∀ j, j < i → isDig (s.data.toList.getD j 0) = true) ∧ n = s.size - i ∧ st = ⟨[(5, .val (.int .i64 (i : Nat))), (4, .val (.int .i64 ((valL (s.data.toList.take i) : Nat) : Int))), (0, .val (.string s))], [], 0⟩) (s.size) ⟨_, weak_sl (sub_cons rfl (sub_cons rfl (sub_cons rfl (sub_nil)))), 0, by omega, fun j h => by omega, rfl, rfl⟩ ?_
        rintro n st ⟨i, hii, hall, hni, rfl⟩
        refine awp_seq ?_
        refine awp_seq ?_
        refine r1 T0_ok hP hm hN ?_
        refine g1 ?_
        refine g1 ?_
        refine g1 ?_
        refine g1 ?_
        refine awp_cond rfl (fun hc1 => ?_) (fun hc1 => ?_)
        · skip
          have hlti : i < s.size := by simpa using hc1
          have hvl : valL (s.data.toList.take i) < 10 ^ i := valL_lt i _ (by rw [List.length_take]; omega) (take_dig (by omega) hall)
          have hvm : (10 : Nat) ^ i ≤ 10 ^ 9 := Nat.pow_le_pow_right (by decide) (by omega)
          have hvn : valL (s.data.toList.take i) < 1000000000 := by omega
          have hcb : (s.data.toList.getD i 0).toNat < 256 := UInt8.toNat_lt _
          refine awp_skip ?_
          refine awp_seq ?_
          refine awp_block ?_
          refine awp_seq ?_
          refine awp_seq ?_
          refine r1 T0_ok hP hm hN ?_
          refine g1 ?_
          refine g1 ?_
          refine g1 ?_
          refine g1 ?_
          refine g1 ?_
          refine gg1 ?_
          refine gg1 ?_
          refine gg1 ?_
          refine gg1 ?_
          refine g1 ?_
          refine awp_cond rfl (fun hc2 => ?_) (fun hc2 => ?_)
          · skip
            have hr : numR s.data.toList = (0, false) := numR_no (by
              rw [dig_iff] at hc2
              rw [numOk, Bool.and_eq_false_iff]
              right
              rw [List.all_eq_false]
              exact ⟨_, getD_mem3 (l := s.data.toList) (j := i) (by omega), by simpa using hc2⟩)
            refine awp_seq ?_
            refine r1 T0_ok hP hm hN ?_
            refine g1 ?_
            refine g1 ?_
            refine awp_ret ?_
            refine fin_mk [] rfl rfl ?_ trivial (by decide)
            show D.tup [.val (.int .i64 (numR s.data.toList).1), .val (.bool (numR s.data.toList).2)] = _
            rw [hr]
            rfl
          · skip
            have hdg : isDig (s.data.toList.getD i 0) = true := by rw [dig_iff] at hc2; simpa using hc2
            obtain ⟨hd1, hd2, hd3⟩ := dig_back _ hdg
            have hst : ((valL (s.data.toList.take (i + 1)) : Nat) : Int) = 10 * ((valL (s.data.toList.take i) : Nat) : Int) + (((s.data.toList.getD i 0).toNat : Int) - 48) := by rw [val_step (by omega)]; omega
            refine awp_skip ?_
            refine r1 T0_ok hP hm hN ?_
            refine g1 ?_
            refine g1 ?_
            refine g1 ?_
            refine g1 ?_
            refine g1 ?_
            refine g1 ?_
            refine g1 ?_
            refine g1 ?_
            refine g1 ?_
            refine r1 T0_ok hP hm hN ?_
            refine g1 ?_
            refine g1 ?_
            refine g1 ?_
            refine ⟨s.size - (i + 1), _, by omega, (by rw [hst]; exact weak_sl (sub_cons rfl (sub_cons rfl (sub_cons rfl (sub_nil))))), i + 1, by omega, upto_step hall hdg, rfl, rfl⟩
        · skip
          have hge0 : ¬ i < s.size := by simpa using hc1
          have heqi : i = s.data.toList.length := by omega
          have hr : numR s.data.toList = (((valL (s.data.toList.take i) : Nat) : Int), true) := by
            rw [heqi, List.take_length]
            exact numR_yes (by rw [numOk, all_dig (fun j hj => hall j (by omega)), Bool.and_true]; simp only [Bool.not_eq_true', Bool.or_eq_false_iff, Bool.and_eq_false_iff, decide_eq_false_iff_not]; exact ⟨⟨by omega, by omega⟩, .inl (fun e => by have h : ¬ (((s.data.toList.getD 0 0).toNat : Nat) : Int) = 48 := beq_eq_false_iff_ne.1 h1; omega)⟩)
          refine awp_exit ?_
          repeat refine thenA_exit ?_
          refine blockA_hit ?_
          refine awp_seq ?_
          refine r1 T0_ok hP hm hN ?_
          refine g1 ?_
          refine g1 ?_
          refine g1 ?_
          refine awp_ret ?_
          refine fin_mk [] rfl rfl ?_ trivial (by decide)
          show D.tup [.val (.int .i64 (numR s.data.toList).1), .val (.bool (numR s.data.toList).2)] = _
          rw [hr]
          rfl
    · skip
      refine gy1 ?_
      refine gy1 ?_
      refine gy1 ?_
      refine gy1 ?_
      refine g1 ?_
      refine awp_cond rfl (fun hc3 => ?_) (fun hc3 => ?_)
      · skip
        have hr : numR s.data.toList = (0, false) := numR_no (by
          have h : (((s.data.toList.getD 0 0).toNat : Nat) : Int) = 48 := beq_iff_eq.1 h1
          have h' := hc3
          simp at h'
          simp only [numOk, Bool.and_eq_false_iff, Bool.not_eq_false', Bool.or_eq_true, Bool.and_eq_true, decide_eq_true_eq]
          left; right; exact ⟨by omega, by omega⟩)
        refine awp_seq ?_
        refine r1 T0_ok hP hm hN ?_
        refine g1 ?_
        refine g1 ?_
        refine awp_ret ?_
        refine fin_mk [] rfl rfl ?_ trivial (by decide)
        show D.tup [.val (.int .i64 (numR s.data.toList).1), .val (.bool (numR s.data.toList).2)] = _
        rw [hr]
        rfl
      · skip
        refine awp_skip ?_
        refine awp_seq ?_
        refine r1 T0_ok hP hm hN ?_
        refine g1 ?_
        refine awp_seq ?_
        refine awp_seq ?_
        refine r1 T0_ok hP hm hN ?_
        refine g1 ?_
        refine awp_block ?_
        refine awp_loop (fun n st => ∃ i : Nat, i ≤ s.size ∧ (∀ j, j < i → isDig (s.data.toList.getD j 0) = true) ∧ n = s.size - i ∧ st = ⟨[(5, .val (.int .i64 (i : Nat))), (4, .val (.int .i64 ((valL (s.data.toList.take i) : Nat) : Int))), (0, .val (.string s))], [], 0⟩) (s.size) ⟨_, weak_sl (sub_cons rfl (sub_cons rfl (sub_cons rfl (sub_nil)))), 0, by omega, fun j h => by omega, rfl, rfl⟩ ?_
        rintro n st ⟨i, hii, hall, hni, rfl⟩
        refine awp_seq ?_
        refine awp_seq ?_
        refine r1 T0_ok hP hm hN ?_
        refine g1 ?_
        refine g1 ?_
        refine g1 ?_
        refine g1 ?_
        refine awp_cond rfl (fun hc4 => ?_) (fun hc4 => ?_)
        · skip
          have hlti : i < s.size := by simpa using hc4
          have hvl : valL (s.data.toList.take i) < 10 ^ i := valL_lt i _ (by rw [List.length_take]; omega) (take_dig (by omega) hall)
          have hvm : (10 : Nat) ^ i ≤ 10 ^ 9 := Nat.pow_le_pow_right (by decide) (by omega)
          have hvn : valL (s.data.toList.take i) < 1000000000 := by omega
          have hcb : (s.data.toList.getD i 0).toNat < 256 := UInt8.toNat_lt _
          refine awp_skip ?_
          refine awp_seq ?_
          refine awp_block ?_
          refine awp_seq ?_
          refine awp_seq ?_
          refine r1 T0_ok hP hm hN ?_
          refine g1 ?_
          refine g1 ?_
          refine g1 ?_
          refine g1 ?_
          refine g1 ?_
          refine gg1 ?_
          refine gg1 ?_
          refine gg1 ?_
          refine gg1 ?_
          refine g1 ?_
          refine awp_cond rfl (fun hc5 => ?_) (fun hc5 => ?_)
          · skip
            have hr : numR s.data.toList = (0, false) := numR_no (by
              rw [dig_iff] at hc5
              rw [numOk, Bool.and_eq_false_iff]
              right
              rw [List.all_eq_false]
              exact ⟨_, getD_mem3 (l := s.data.toList) (j := i) (by omega), by simpa using hc5⟩)
            refine awp_seq ?_
            refine r1 T0_ok hP hm hN ?_
            refine g1 ?_
            refine g1 ?_
            refine awp_ret ?_
            refine fin_mk [] rfl rfl ?_ trivial (by decide)
            show D.tup [.val (.int .i64 (numR s.data.toList).1), .val (.bool (numR s.data.toList).2)] = _
            rw [hr]
            rfl
          · skip
            have hdg : isDig (s.data.toList.getD i 0) = true := by rw [dig_iff] at hc5; simpa using hc5
            obtain ⟨hd1, hd2, hd3⟩ := dig_back _ hdg
            have hst : ((valL (s.data.toList.take (i + 1)) : Nat) : Int) = 10 * ((valL (s.data.toList.take i) : Nat) : Int) + (((s.data.toList.getD i 0).toNat : Int) - 48) := by rw [val_step (by omega)]; omega
            refine awp_skip ?_
            refine r1 T0_ok hP hm hN ?_
            refine g1 ?_
            refine g1 ?_
            refine g1 ?_
            refine g1 ?_
            refine g1 ?_
            refine g1 ?_
            refine g1 ?_
            refine g1 ?_
            refine g1 ?_
            refine r1 T0_ok hP hm hN ?_
            refine g1 ?_
            refine g1 ?_
            refine g1 ?_
            refine ⟨s.size - (i + 1), _, by omega, (by rw [hst]; exact weak_sl (sub_cons rfl (sub_cons rfl (sub_cons rfl (sub_nil))))), i + 1, by omega, upto_step hall hdg, rfl, rfl⟩
        · skip
          have hge0 : ¬ i < s.size := by simpa using hc4
          have heqi : i = s.data.toList.length := by omega
          have hr : numR s.data.toList = (((valL (s.data.toList.take i) : Nat) : Int), true) := by
            rw [heqi, List.take_length]
            exact numR_yes (by rw [numOk, all_dig (fun j hj => hall j (by omega)), Bool.and_true]; simp only [Bool.not_eq_true', Bool.or_eq_false_iff, Bool.and_eq_false_iff, decide_eq_false_iff_not]; exact ⟨⟨by omega, by omega⟩, .inr (by have h := hc3; simp at h; omega)⟩)
          refine awp_exit ?_
          repeat refine thenA_exit ?_
          refine blockA_hit ?_
          refine awp_seq ?_
          refine r1 T0_ok hP hm hN ?_
          refine g1 ?_
          refine g1 ?_
          refine g1 ?_
          refine awp_ret ?_
          refine fin_mk [] rfl rfl ?_ trivial (by decide)
          show D.tup [.val (.int .i64 (numR s.data.toList).1), .val (.bool (numR s.data.toList).2)] = _
          rw [hr]
          rfl
  · skip
    first | refine areg_not rfl rfl (by simp +decide (disch := omega) only [nrm, lk_nrm, dc_nrm, mk_nrm, mf_nrm, ti_nrm, ls_nrm, mp_nrm, nb_nrm, hset, pick_and, pick_or, ↓reduceIte, Nat.reduceAdd, wI64, wI32, wI16, wI8, wU8, List.length_map, Int.toNat_natCast]; rfl) ?_ | refine areg_notU rfl rfl (by simp +decide (disch := omega) only [nrm, lk_nrm, dc_nrm, mk_nrm, mf_nrm, ti_nrm, ls_nrm, mp_nrm, nb_nrm, hset, pick_and, pick_or, ↓reduceIte, Nat.reduceAdd, wI64, wI32, wI16, wI8, wU8, List.length_map, Int.toNat_natCast]; rfl) ?_
    first | refine areg_not rfl rfl (by simp +decide (disch := omega) only [nrm, lk_nrm, dc_nrm, mk_nrm, mf_nrm, ti_nrm, ls_nrm, mp_nrm, nb_nrm, hset, pick_and, pick_or, ↓reduceIte, Nat.reduceAdd, wI64, wI32, wI16, wI8, wU8, List.length_map, Int.toNat_natCast]; rfl) ?_ | refine areg_notU rfl rfl (by simp +decide (disch := omega) only [nrm, lk_nrm, dc_nrm, mk_nrm, mf_nrm, ti_nrm, ls_nrm, mp_nrm, nb_nrm, hset, pick_and, pick_or, ↓reduceIte, Nat.reduceAdd, wI64, wI32, wI16, wI8, wU8, List.length_map, Int.toNat_natCast]; rfl) ?_
    first | refine areg_not rfl rfl (by simp +decide (disch := omega) only [nrm, lk_nrm, dc_nrm, mk_nrm, mf_nrm, ti_nrm, ls_nrm, mp_nrm, nb_nrm, hset, pick_and, pick_or, ↓reduceIte, Nat.reduceAdd, wI64, wI32, wI16, wI8, wU8, List.length_map, Int.toNat_natCast]; rfl) ?_ | refine areg_notU rfl rfl (by simp +decide (disch := omega) only [nrm, lk_nrm, dc_nrm, mk_nrm, mf_nrm, ti_nrm, ls_nrm, mp_nrm, nb_nrm, hset, pick_and, pick_or, ↓reduceIte, Nat.reduceAdd, wI64, wI32, wI16, wI8, wU8, List.length_map, Int.toNat_natCast]; rfl) ?_
    first | refine areg_not rfl rfl (by simp +decide (disch := omega) only [nrm, lk_nrm, dc_nrm, mk_nrm, mf_nrm, ti_nrm, ls_nrm, mp_nrm, nb_nrm, hset, pick_and, pick_or, ↓reduceIte, Nat.reduceAdd, wI64, wI32, wI16, wI8, wU8, List.length_map, Int.toNat_natCast]; rfl) ?_ | refine areg_notU rfl rfl (by simp +decide (disch := omega) only [nrm, lk_nrm, dc_nrm, mk_nrm, mf_nrm, ti_nrm, ls_nrm, mp_nrm, nb_nrm, hset, pick_and, pick_or, ↓reduceIte, Nat.reduceAdd, wI64, wI32, wI16, wI8, wU8, List.length_map, Int.toNat_natCast]; rfl) ?_
    first | refine areg_not rfl rfl (by simp +decide (disch := omega) only [nrm, lk_nrm, dc_nrm, mk_nrm, mf_nrm, ti_nrm, ls_nrm, mp_nrm, nb_nrm, hset, pick_and, pick_or, ↓reduceIte, Nat.reduceAdd, wI64, wI32, wI16, wI8, wU8, List.length_map, Int.toNat_natCast]; rfl) ?_ | refine areg_notU rfl rfl (by simp +decide (disch := omega) only [nrm, lk_nrm, dc_nrm, mk_nrm, mf_nrm, ti_nrm, ls_nrm, mp_nrm, nb_nrm, hset, pick_and, pick_or, ↓reduceIte, Nat.reduceAdd, wI64, wI32, wI16, wI8, wU8, List.length_map, Int.toNat_natCast]; rfl) ?_
    first | refine areg_not rfl rfl (by simp +decide (disch := omega) only [nrm, lk_nrm, dc_nrm, mk_nrm, mf_nrm, ti_nrm, ls_nrm, mp_nrm, nb_nrm, hset, pick_and, pick_or, ↓reduceIte, Nat.reduceAdd, wI64, wI32, wI16, wI8, wU8, List.length_map, Int.toNat_natCast]; rfl) ?_ | refine areg_notU rfl rfl (by simp +decide (disch := omega) only [nrm, lk_nrm, dc_nrm, mk_nrm, mf_nrm, ti_nrm, ls_nrm, mp_nrm, nb_nrm, hset, pick_and, pick_or, ↓reduceIte, Nat.reduceAdd, wI64, wI32, wI16, wI8, wU8, List.length_map, Int.toNat_natCast]; rfl) ?_
    first | refine areg_not rfl rfl (by simp +decide (disch := omega) only [nrm, lk_nrm, dc_nrm, mk_nrm, mf_nrm, ti_nrm, ls_nrm, mp_nrm, nb_nrm, hset, pick_and, pick_or, ↓reduceIte, Nat.reduceAdd, wI64, wI32, wI16, wI8, wU8, List.length_map, Int.toNat_natCast]; rfl) ?_ | refine areg_notU rfl rfl (by simp +decide (disch := omega) only [nrm, lk_nrm, dc_nrm, mk_nrm, mf_nrm, ti_nrm, ls_nrm, mp_nrm, nb_nrm, hset, pick_and, pick_or, ↓reduceIte, Nat.reduceAdd, wI64, wI32, wI16, wI8, wU8, List.length_map, Int.toNat_natCast]; rfl) ?_
    first | refine areg_not rfl rfl (by simp +decide (disch := omega) only [nrm, lk_nrm, dc_nrm, mk_nrm, mf_nrm, ti_nrm, ls_nrm, mp_nrm, nb_nrm, hset, pick_and, pick_or, ↓reduceIte, Nat.reduceAdd, wI64, wI32, wI16, wI8, wU8, List.length_map, Int.toNat_natCast]; rfl) ?_ | refine areg_notU rfl rfl (by simp +decide (disch := omega) only [nrm, lk_nrm, dc_nrm, mk_nrm, mf_nrm, ti_nrm, ls_nrm, mp_nrm, nb_nrm, hset, pick_and, pick_or, ↓reduceIte, Nat.reduceAdd, wI64, wI32, wI16, wI8, wU8, List.length_map, Int.toNat_natCast]; rfl) ?_
    refine g1 ?_
    refine awp_cond rfl (fun hc6 => ?_) (fun hc6 => ?_)
    · skip
      have hr : numR s.data.toList = (0, false) := numR_no (by
        rw [ba_nil] at h0
        simp only [Bool.or_eq_true, decide_eq_true_eq] at h0
        simp only [numOk, Bool.and_eq_false_iff, Bool.not_eq_false', Bool.or_eq_true, Bool.and_eq_true, decide_eq_true_eq]
        left; left; omega)
      refine awp_seq ?_
      refine r1 T0_ok hP hm hN ?_
      refine g1 ?_
      refine g1 ?_
      refine awp_ret ?_
      refine fin_mk [] rfl rfl ?_ trivial (by decide)
      show D.tup [.val (.int .i64 (numR s.data.toList).1), .val (.bool (numR s.data.toList).2)] = _
      rw [hr]
      rfl
    · skip
      exfalso; simp at hc6
end Go.Proofs.YtoincpeodnmfmaaDoor.Abs
