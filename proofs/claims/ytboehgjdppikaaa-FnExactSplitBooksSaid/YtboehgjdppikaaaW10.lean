import Derived.Test.YtboehgjdppikaaaW9
set_option linter.unusedVariables false
set_option linter.unusedSimpArgs false
namespace Go.Proofs.Ytboehgjdppikaaa.Abs
open Go Go.RowKit
def splitR (xs : List Bk) (h : Int) : List Bk × List Bk × Int := if !validBs xs then ([], [], 1) else if !inI h 0 1000 then ([], [], 2) else (xs.filter fun b => decide (b.high ≤ h), xs.filter fun b => !decide (b.high ≤ h), 0)
/-- What the first i of them say yes to. -/
def fltF {α : Type} (p : α → Bool) (xs : List α) (i : Nat) : List α := (xs.take i).filter p
theorem fltF_zero {α : Type} (p : α → Bool) (xs : List α) : fltF p xs 0 = [] := rfl
theorem fltF_all {α : Type} (p : α → Bool) (xs : List α) : fltF p xs xs.length = xs.filter p := by simp [fltF]
theorem fltF_yes {α : Type} {d : α} {p : α → Bool} {xs : List α} {i : Nat} (hi : i < xs.length) (h : p (xs.getD i d) = true) : fltF p xs (i + 1) = fltF p xs i ++ [xs.getD i d] := by
  have e : xs.getD i d = xs[i] := by simp [List.getD, hi]
  rw [e] at h ⊢
  unfold fltF
  rw [List.take_succ_eq_append_getElem hi, List.filter_append]
  simp [h]
theorem fltF_no {α : Type} {d : α} {p : α → Bool} {xs : List α} {i : Nat} (hi : i < xs.length) (h : p (xs.getD i d) = false) : fltF p xs (i + 1) = fltF p xs i := by
  have e : xs.getD i d = xs[i] := by simp [List.getD, hi]
  rw [e] at h
  unfold fltF
  rw [List.take_succ_eq_append_getElem hi, List.filter_append]
  simp [h]
theorem fltF_len {α : Type} (p : α → Bool) (xs : List α) (i : Nat) : (fltF p xs i).length ≤ xs.length := by
  unfold fltF
  have h1 := List.length_filter_le p (xs.take i)
  have h2 : (xs.take i).length ≤ xs.length := by rw [List.length_take]; exact Nat.min_le_right _ _
  omega
theorem bks_app (xs ys : List Bk) : bks (xs ++ ys) = bks xs ++ bks ys := by simp
abbrev loP (h : Int) (b : Bk) : Bool := decide (b.high ≤ h)
abbrev hiP (h : Int) (b : Bk) : Bool := !decide (b.high ≤ h)
theorem splitR_len (xs : List Bk) (h : Int) : (splitR xs h).1.length ≤ xs.length ∧ (splitR xs h).2.1.length ≤ xs.length := by
  unfold splitR
  split
  · simp
  · split
    · simp
    · exact ⟨List.length_filter_le _ _, List.length_filter_le _ _⟩

noncomputable abbrev s_S_SplitBooks : Spec (List Bk × Int) where
  args := fun x => [.sl 8 (bks x.1), .val (.int .i64 x.2)]
  pre := fun x => (∀ b ∈ x.1, isBk b) ∧ x.1.length ≤ 1048576
  new := fun x => [⟨34, 8, false, bks (splitR x.1 x.2).1⟩, ⟨34, 8, false, bks (splitR x.1 x.2).2.1⟩]
  res := fun x => .tup [.own 0, .own 1, .val (.int .i64 (splitR x.1 x.2).2.2)]

set_option maxRecDepth 20000 in
set_option maxHeartbeats 1000000 in
theorem ok_S_SplitBooks : FnOk Pr 23 s_S_SplitBooks := by
  refine fn_ok 2 0 T0_ok Go.Proofs.Try.func23 rfl (enters_of Go.Proofs.Try.func23 rfl rfl) (fun _ => rfl) (fun _ => rfl) (fun _ => rfl) ?_
  rintro ⟨xs, high⟩ ⟨hv, hl⟩ C hP hN hm hG
  change awp C _ _ ⟨[(0, .sl 8 (bks xs)), (1, .val (.int .i64 high))], [], 0⟩
  simp only at hv hl
  refine awp_seq ?_
  refine r1 T0_ok hP hm hN ?_
  refine g1 ?_
  refine g1 ?_
  refine g1 ?_
  refine awp_seq ?_
  refine awp_seq ?_
  refine r1 T0_ok hP hm hN ?_
  refine g1 ?_
  refine gc1 ?_ (call1 ok_S_l01Ok _ [])
  refine g1 ?_
  refine awp_cond rfl (fun hc0 => ?_) (fun hc0 => ?_)
  · skip
    have hr : splitR xs high = ([], [], 1) := by rw [splitR, if_pos hc0]
    refine awp_seq ?_
    refine r1 T0_ok hP hm hN ?_
    refine g1 ?_
    refine g1 ?_
    refine g1 ?_
    refine g1 ?_
    refine g1 ?_
    refine awp_ret ?_
    refine fin_mk [0, 1] rfl rfl ?_ (by simp only [hr]; exact objs_cons rfl rfl rfl rfl rfl (.inl rfl) (objs_cons rfl rfl rfl rfl rfl (.inl rfl) objs_nil)) (by decide)
    show D.tup [.own 0, .own 1, .val (.int .i64 (splitR xs high).2.2)] = _
    rw [hr]
    rfl
  · skip
    refine awp_skip ?_
    refine awp_seq ?_
    refine awp_seq ?_
    refine r1 T0_ok hP hm hN ?_
    refine g1 ?_
    refine gc1 ?_ (call1 ok_S_l00In (_, _, _) [])
    refine g1 ?_
    refine awp_cond rfl (fun hc1 => ?_) (fun hc1 => ?_)
    · skip
      have hr : splitR xs high = ([], [], 2) := by rw [splitR, if_neg (by rw [hc0]; simp), if_pos hc1]
      refine awp_seq ?_
      refine r1 T0_ok hP hm hN ?_
      refine g1 ?_
      refine g1 ?_
      refine g1 ?_
      refine g1 ?_
      refine g1 ?_
      refine awp_ret ?_
      refine fin_mk [0, 1] rfl rfl ?_ (by simp only [hr]; exact objs_cons rfl rfl rfl rfl rfl (.inl rfl) (objs_cons rfl rfl rfl rfl rfl (.inl rfl) objs_nil)) (by decide)
      show D.tup [.own 0, .own 1, .val (.int .i64 (splitR xs high).2.2)] = _
      rw [hr]
      rfl
    · skip
      refine awp_skip ?_
      refine awp_seq ?_
      refine r1 T0_ok hP hm hN ?_
      refine g1 ?_
      refine g1 ?_
      refine awp_seq ?_
      refine r1 T0_ok hP hm hN ?_
      refine g1 ?_
      refine g1 ?_
      refine awp_seq ?_
      refine awp_seq ?_
      refine r1 T0_ok hP hm hN ?_
      refine g1 ?_
      refine awp_block ?_
      refine awp_loop (fun n st => ∃ i : Nat, i ≤ xs.length ∧ n = xs.length - i ∧ st = ⟨[(9, .val (.int .i64 (i : Nat))), (7, .own 0), (8, .own 1), (0, .sl 8 (bks xs)), (1, .val (.int .i64 high))], [(1, ⟨34, 8, false, bks (fltF (hiP high) xs i)⟩), (0, ⟨34, 8, false, bks (fltF (loP high) xs i)⟩)], 2⟩) (xs.length) ⟨_, weak_sl (sub_cons rfl (sub_cons rfl (sub_cons rfl (sub_cons rfl (sub_cons rfl (sub_nil)))))), 0, by omega, rfl, rfl⟩ ?_
      rintro n st ⟨i, hii, hni, rfl⟩
      refine awp_seq ?_
      refine awp_seq ?_
      refine r1 T0_ok hP hm hN ?_
      refine g1 ?_
      refine g1 ?_
      refine g1 ?_
      refine g1 ?_
      refine awp_cond rfl (fun hc2 => ?_) (fun hc2 => ?_)
      · skip
        have hlti : i < xs.length := by simpa using hc2
        have hb := hv _ (getD_mem' (d := bk0) hlti)
        have hbh : -32768 ≤ (xs.getD i bk0).high ∧ (xs.getD i bk0).high ≤ 32767 := hb.2.2.2.2.2.2.1
        have hl1 := fltF_len (loP high) xs i
        have hl2 := fltF_len (hiP high) xs i
        refine awp_skip ?_
        refine awp_seq ?_
        refine awp_block ?_
        refine awp_seq ?_
        refine r1 T0_ok hP hm hN ?_
        refine g1 ?_
        refine g1 ?_
        refine g1 ?_
        refine g1 ?_
        refine g1 ?_
        refine g1 ?_
        refine g1 ?_
        refine g1 ?_
        refine awp_cond rfl (fun hc3 => ?_) (fun hc3 => ?_)
        · skip
          have e1 := fltF_yes (d := bk0) (p := loP high) hlti hc3
          have e2 := fltF_no (d := bk0) (p := hiP high) hlti (by simp only [hiP, hc3, Bool.not_true])
          refine r1 T0_ok hP hm hN ?_
          refine g1 ?_
          refine g1 ?_
          refine g1 ?_
          refine g1 ?_
          refine g1 ?_
          refine g1 ?_
          refine ga1 ?_
          refine g1 ?_
          refine r1 T0_ok hP hm hN ?_
          refine g1 ?_
          refine g1 ?_
          refine g1 ?_
          refine ⟨xs.length - (i + 1), _, by omega, (by rw [e1, e2]; (try rw [bks_app]); exact Weak.trans (weak_drop 2) (Weak.trans (weak_nx (nx' := 2) (by omega) (by rfl)) (weak_sl (sub_cons rfl (sub_cons rfl (sub_cons rfl (sub_cons rfl (sub_cons rfl (sub_nil))))))))), i + 1, by omega, rfl, rfl⟩
        · skip
          have e1 := fltF_no (d := bk0) (p := loP high) hlti hc3
          have e2 := fltF_yes (d := bk0) (p := hiP high) hlti (by simp only [hiP, hc3, Bool.not_false])
          refine r1 T0_ok hP hm hN ?_
          refine g1 ?_
          refine g1 ?_
          refine g1 ?_
          refine g1 ?_
          refine g1 ?_
          refine g1 ?_
          refine ga1 ?_
          refine g1 ?_
          refine r1 T0_ok hP hm hN ?_
          refine g1 ?_
          refine g1 ?_
          refine g1 ?_
          refine ⟨xs.length - (i + 1), _, by omega, (by rw [e1, e2]; (try rw [bks_app]); exact Weak.trans (weak_drop 2) (Weak.trans (weak_nx (nx' := 2) (by omega) (by rfl)) (weak_sl (sub_cons rfl (sub_cons rfl (sub_cons rfl (sub_cons rfl (sub_cons rfl (sub_nil))))))))), i + 1, by omega, rfl, rfl⟩
      · skip
        have hgei : ¬ i < xs.length := by simpa using hc2
        have heqi : i = xs.length := by omega
        rw [heqi, fltF_all, fltF_all]
        have hr : splitR xs high = (xs.filter (loP high), xs.filter (hiP high), 0) := by rw [splitR, if_neg (by rw [hc0]; simp), if_neg (by rw [hc1]; simp)]
        refine awp_exit ?_
        repeat refine thenA_exit ?_
        refine blockA_hit ?_
        refine awp_seq ?_
        refine r1 T0_ok hP hm hN ?_
        refine g1 ?_
        refine g1 ?_
        refine g1 ?_
        refine g1 ?_
        refine g1 ?_
        refine awp_ret ?_
        refine fin_mk [0, 1] rfl rfl ?_ (by simp only [hr]; exact objs_cons rfl rfl rfl rfl rfl (.inl rfl) (objs_cons rfl rfl rfl rfl rfl (.inl rfl) objs_nil)) (by decide)
        show D.tup [.own 0, .own 1, .val (.int .i64 (splitR xs high).2.2)] = _
        rw [hr]
        rfl

noncomputable abbrev s_I_SplitBooks : Spec (List Bk × Int) where
  args := fun x => [.sl 8 (bks x.1), .val (.int .i64 x.2)]
  pre := fun x => (∀ b ∈ x.1, isBk b) ∧ x.1.length ≤ 1048576
  new := fun x => [⟨34, 8, false, bks (splitR x.1 x.2).1⟩, ⟨34, 8, false, bks (splitR x.1 x.2).2.1⟩]
  res := fun x => .tup [.own 0, .own 1, .val (.int .i64 (splitR x.1 x.2).2.2)]

set_option maxRecDepth 20000 in
set_option maxHeartbeats 1000000 in
theorem ok_I_SplitBooks : FnOk Pr 25 s_I_SplitBooks := by
  refine fn_ok 2 0 T0_ok Go.Proofs.Try.func25 rfl (enters_of Go.Proofs.Try.func25 rfl rfl) (fun _ => rfl) (fun _ => rfl) (fun _ => rfl) ?_
  rintro ⟨xs, high⟩ ⟨hv, hl⟩ C hP hN hm hG
  change awp C _ _ ⟨[(0, .sl 8 (bks xs)), (1, .val (.int .i64 high))], [], 0⟩
  simp only at hv hl
  refine awp_seq ?_
  refine r1 T0_ok hP hm hN ?_
  refine g1 ?_
  refine g1 ?_
  refine g1 ?_
  refine awp_seq ?_
  refine awp_block ?_
  refine awp_seq ?_
  refine r1 T0_ok hP hm hN ?_
  refine g1 ?_
  refine gc1 ?_ (call1 ok_I_ValidBooks _ [])
  refine g1 ?_
  refine g1 ?_
  refine awp_cond rfl (fun hc0 => ?_) (fun hc0 => ?_)
  · skip
    have hr : splitR xs high = ([], [], 1) := by rw [splitR, if_pos hc0]
    refine awp_seq ?_
    refine r1 T0_ok hP hm hN ?_
    refine g1 ?_
    refine g1 ?_
    refine g1 ?_
    refine awp_weak (Weak.trans (weak_nil 4 34 8 rfl) (weak_nil 5 34 8 rfl)) ?_
    refine awp_ret ?_
    refine fin_mk [0, 1] rfl rfl ?_ (by simp only [hr]; exact objs_cons rfl rfl rfl rfl rfl (.inl rfl) (objs_cons rfl rfl rfl rfl rfl (.inl rfl) objs_nil)) (by decide)
    show D.tup [.own 0, .own 1, .val (.int .i64 (splitR xs high).2.2)] = _
    rw [hr]
    rfl
  · skip
    refine awp_seq ?_
    refine r1 T0_ok hP hm hN ?_
    refine g1 ?_
    refine gc1 ?_ (call1 ok_I_within_int64 (_, _, _) [])
    refine g1 ?_
    refine g1 ?_
    refine awp_cond rfl (fun hc1 => ?_) (fun hc1 => ?_)
    · skip
      have hr : splitR xs high = ([], [], 2) := by rw [splitR, if_neg (by rw [hc0]; simp), if_pos hc1]
      refine awp_seq ?_
      refine r1 T0_ok hP hm hN ?_
      refine g1 ?_
      refine g1 ?_
      refine g1 ?_
      refine awp_weak (Weak.trans (weak_nil 4 34 8 rfl) (weak_nil 5 34 8 rfl)) ?_
      refine awp_ret ?_
      refine fin_mk [0, 1] rfl rfl ?_ (by simp only [hr]; exact objs_cons rfl rfl rfl rfl rfl (.inl rfl) (objs_cons rfl rfl rfl rfl rfl (.inl rfl) objs_nil)) (by decide)
      show D.tup [.own 0, .own 1, .val (.int .i64 (splitR xs high).2.2)] = _
      rw [hr]
      rfl
    · skip
      refine awp_skip ?_
      refine awp_seq ?_
      refine r1 T0_ok hP hm hN ?_
      refine g1 ?_
      refine g1 ?_
      refine awp_seq ?_
      refine awp_seq ?_
      refine r1 T0_ok hP hm hN ?_
      refine g1 ?_
      refine g1 ?_
      refine g1 ?_
      refine awp_block ?_
      refine awp_loop (fun n st => ∃ i : Nat, i ≤ xs.length ∧ n = xs.length - i ∧ st = ⟨[(21, .val (.int .i64 (i : Nat))), (20, .val (.int .i64 (xs.length : Nat))), (19, .sl 8 (bks xs)), (7, .own 0), (8, .own 1), (1, .val (.int .i64 high))], [(1, ⟨34, 8, false, bks (fltF (hiP high) xs i)⟩), (0, ⟨34, 8, false, bks (fltF (loP high) xs i)⟩)], 2⟩) (xs.length) ⟨_, (by exact Weak.trans (weak_nil 7 34 8 rfl) (Weak.trans (weak_nil 8 34 8 rfl) (weak_sl (sub_cons rfl (sub_cons rfl (sub_cons rfl (sub_cons rfl (sub_cons rfl (sub_cons rfl (sub_nil)))))))))), 0, by omega, rfl, rfl⟩ ?_
      rintro n st ⟨i, hii, hni, rfl⟩
      refine awp_seq ?_
      refine r1 T0_ok hP hm hN ?_
      refine g1 ?_
      refine awp_seq ?_
      refine awp_cond rfl (fun hc2 => ?_) (fun hc2 => ?_)
      · skip
        have hlti : i < xs.length := by simpa using hc2
        have hb := hv _ (getD_mem' (d := bk0) hlti)
        have hbh : -32768 ≤ (xs.getD i bk0).high ∧ (xs.getD i bk0).high ≤ 32767 := hb.2.2.2.2.2.2.1
        have hl1 := fltF_len (loP high) xs i
        have hl2 := fltF_len (hiP high) xs i
        refine awp_skip ?_
        refine awp_seq ?_
        refine awp_block ?_
        refine awp_seq ?_
        refine r1 T0_ok hP hm hN ?_
        refine g1 ?_
        refine g1 ?_
        refine g1 ?_
        refine g1 ?_
        refine awp_seq ?_
        refine r1 T0_ok hP hm hN ?_
        refine g1 ?_
        refine g1 ?_
        refine g1 ?_
        refine g1 ?_
        refine g1 ?_
        refine awp_cond rfl (fun hc3 => ?_) (fun hc3 => ?_)
        · skip
          have e1 := fltF_yes (d := bk0) (p := loP high) hlti hc3
          have e2 := fltF_no (d := bk0) (p := hiP high) hlti (by simp only [hiP, hc3, Bool.not_true])
          refine r1 T0_ok hP hm hN ?_
          refine g1 ?_
          refine g1 ?_
          refine g1 ?_
          refine ga1 ?_
          refine g1 ?_
          refine r1 T0_ok hP hm hN ?_
          refine g1 ?_
          refine g1 ?_
          refine ⟨xs.length - (i + 1), _, by omega, (by rw [e1, e2]; (try rw [bks_app]); exact Weak.trans (weak_drop 3) (Weak.trans (weak_drop 2) (Weak.trans (weak_nx (nx' := 2) (by omega) (by rfl)) (weak_sl (sub_cons rfl (sub_cons rfl (sub_cons rfl (sub_cons rfl (sub_cons rfl (sub_cons rfl (sub_nil))))))))))), i + 1, by omega, rfl, rfl⟩
        · skip
          have e1 := fltF_no (d := bk0) (p := loP high) hlti hc3
          have e2 := fltF_yes (d := bk0) (p := hiP high) hlti (by simp only [hiP, hc3, Bool.not_false])
          refine r1 T0_ok hP hm hN ?_
          refine g1 ?_
          refine g1 ?_
          refine g1 ?_
          refine ga1 ?_
          refine g1 ?_
          refine r1 T0_ok hP hm hN ?_
          refine g1 ?_
          refine g1 ?_
          refine ⟨xs.length - (i + 1), _, by omega, (by rw [e1, e2]; (try rw [bks_app]); exact Weak.trans (weak_drop 3) (Weak.trans (weak_drop 2) (Weak.trans (weak_nx (nx' := 2) (by omega) (by rfl)) (weak_sl (sub_cons rfl (sub_cons rfl (sub_cons rfl (sub_cons rfl (sub_cons rfl (sub_cons rfl (sub_nil))))))))))), i + 1, by omega, rfl, rfl⟩
      · skip
        have hgei : ¬ i < xs.length := by simpa using hc2
        have heqi : i = xs.length := by omega
        rw [heqi, fltF_all, fltF_all]
        have hr : splitR xs high = (xs.filter (loP high), xs.filter (hiP high), 0) := by rw [splitR, if_neg (by rw [hc0]; simp), if_neg (by rw [hc1]; simp)]
        refine awp_exit ?_
        repeat refine thenA_exit ?_
        refine blockA_hit ?_
        refine awp_seq ?_
        refine r1 T0_ok hP hm hN ?_
        refine g1 ?_
        refine g1 ?_
        refine g1 ?_
        refine g1 ?_
        refine g1 ?_
        refine awp_ret ?_
        refine fin_mk [0, 1] rfl rfl ?_ (by simp only [hr]; exact objs_cons rfl rfl rfl rfl rfl (.inl rfl) (objs_cons rfl rfl rfl rfl rfl (.inl rfl) objs_nil)) (by decide)
        show D.tup [.own 0, .own 1, .val (.int .i64 (splitR xs high).2.2)] = _
        rw [hr]
        rfl

noncomputable abbrev s_L_FnExactSplitBooks : Spec (List Bk × Int) where
  args := fun x => [.sl 8 (bks x.1), .val (.int .i64 x.2)]
  pre := fun x => ((∀ b ∈ x.1, isBk b) ∧ x.1.length ≤ 9223372036854775807) ∧ (-9223372036854775808 ≤ x.2 ∧ x.2 ≤ 9223372036854775807)
  res := fun x => .val (.bool true)

set_option maxRecDepth 20000 in
set_option maxHeartbeats 4000000 in
theorem ok_L_FnExactSplitBooks : FnOk Pr 5 s_L_FnExactSplitBooks := by
  refine fn_ok 2 0 T0_ok Go.Proofs.Try.func5 rfl (enters_of Go.Proofs.Try.func5 rfl rfl) (fun _ => rfl) (fun _ => rfl) (fun _ => rfl) ?_
  rintro ⟨xs, high⟩ ⟨⟨hv, hl0⟩, _⟩ C hP hN hm hG
  change awp C _ _ ⟨[(0, .sl 8 (bks xs)), (1, .val (.int .i64 high))], [], 0⟩
  simp only at hv hl0
  have hs := splitR_len xs high
  refine awp_seq ?_
  refine r1 T0_ok hP hm hN ?_
  refine g1 ?_
  refine awp_seq ?_
  refine r1 T0_ok hP hm hN ?_
  refine g1 ?_
  refine awp_seq ?_
  refine r1 T0_ok hP hm hN ?_
  refine g1 ?_
  refine g1 ?_
  refine gc1 ?_ (call1 ok_L_szBookS (_, _) [] (hpre := by (try dsimp only); exact ⟨hl0, by omega, by omega⟩))
  refine g1 ?_
  refine awp_seq ?_
  refine awp_seq ?_
  refine r1 T0_ok hP hm hN ?_
  refine g1 ?_
  refine g1 ?_
  refine awp_cond rfl (fun hc0 => ?_) (fun hc0 => ?_)
  · skip
    refine awp_seq ?_
    refine r1 T0_ok hP hm hN ?_
    refine g1 ?_
    refine awp_ret ?_
    refine fin_mk [] rfl rfl ?_ trivial (by decide)
    rfl
  · skip
    have hl : xs.length ≤ 1048576 := by simp only [decide_eq_false_iff_not] at hc0; split at hc0 <;> omega
    refine awp_skip ?_
    refine awp_seq ?_
    refine r1 T0_ok hP hm hN ?_
    refine g1 ?_
    refine gc1 ?_ (call1 ok_L_toBookS _ [] (hpre := by (try dsimp only); exact hl))
    refine g1 ?_
    refine gc1 ?_ (call1 ok_S_SplitBooks (_, _) [] (hpre := by (try dsimp only); exact ⟨hv, hl⟩))
    refine g1 ?_
    refine g1 ?_
    refine g1 ?_
    refine g1 ?_
    refine g1 ?_
    refine g1 ?_
    refine g1 ?_
    refine awp_seq ?_
    refine r1 T0_ok hP hm hN ?_
    refine g1 ?_
    refine gc1 ?_ (call1 ok_L_toBookS _ [] (hpre := by (try dsimp only); exact hl))
    refine g1 ?_
    refine awp_seq ?_
    refine r1 T0_ok hP hm hN ?_
    refine g1 ?_
    refine g1 ?_
    refine gc1 ?_ (call1 ok_I_SplitBooks (_, _) [] (hpre := by (try dsimp only); exact ⟨hv, hl⟩))
    refine g1 ?_
    refine g1 ?_
    refine g1 ?_
    refine g1 ?_
    refine g1 ?_
    refine g1 ?_
    refine g1 ?_
    refine awp_seq ?_
    refine awp_seq ?_
    refine r1 T0_ok hP hm hN ?_
    refine g1 ?_
    refine g1 ?_
    refine gc1 ?_ (call1 ok_L_eqBookS (_, _) [] (hpre := by (try dsimp only); exact ⟨by omega, by omega⟩))
    refine g1 ?_
    refine g1 ?_
    refine gg1 ?_
    refine gg1 ?_
    refine ggc1 ?_ (hs := by intro hb; simp +decide only [hb, gd_tt, gd_ff, beq_self_eq_true, Bool.true_and, beq_true]; exact ⟨rfl, _, call1 ok_L_eqBookS (_, _) [] (hpre := by (try dsimp only); exact ⟨by omega, by omega⟩), rfl, rfl, rfl⟩)
    refine gg1 ?_
    refine g1 ?_
    refine g1 ?_
    refine gg1 ?_
    refine gg1 ?_
    refine gg1 ?_
    refine g1 ?_
    refine awp_cond rfl (fun hc1 => ?_) (fun hc1 => ?_)
    · skip
      exfalso; simp [ask] at hc1
    · skip
      refine awp_skip ?_
      refine awp_seq ?_
      refine awp_seq ?_
      refine r1 T0_ok hP hm hN ?_
      refine g1 ?_
      refine g1 ?_
      refine gc1 ?_ (call1 ok_L_toBookS _ [] (hpre := by (try dsimp only); exact hl))
      refine gc1 ?_ (call1 ok_L_eqBookS (_, _) [] (hpre := by (try dsimp only); exact ⟨by omega, by omega⟩))
      refine g1 ?_
      refine awp_cond rfl (fun hc2 => ?_) (fun hc2 => ?_)
      · skip
        exfalso; simp [ask] at hc2
      · skip
        refine awp_skip ?_
        refine awp_seq ?_
        refine r1 T0_ok hP hm hN ?_
        refine g1 ?_
        refine awp_seq ?_
        refine r1 T0_ok hP hm hN ?_
        refine g1 ?_
        refine g1 ?_
        refine gc1 ?_ (call1 ok_L_markBookS (xs, _) [3] (hpre := by (try dsimp only); exact ⟨by omega, by omega, by omega⟩))
        refine g1 ?_
        refine awp_seq ?_
        refine awp_seq ?_
        refine r1 T0_ok hP hm hN ?_
        refine g1 ?_
        refine g1 ?_
        refine g1 ?_
        refine gg1 ?_
        refine gg1 ?_
        refine ggc1 ?_ (hs := by intro hb; simp +decide only [hb, gd_tt, gd_ff, beq_self_eq_true, Bool.true_and, beq_true]; exact ⟨rfl, _, call1 ok_L_eqBookS (_, _) [] (hpre := by (try dsimp only); exact ⟨by omega, by omega⟩), rfl, rfl, rfl⟩)
        refine gg1 ?_
        refine g1 ?_
        refine g1 ?_
        refine gg1 ?_
        refine gg1 ?_
        refine ggc1 ?_ (hs := by intro hb; simp +decide only [hb, gd_tt, gd_ff, beq_self_eq_true, Bool.true_and, beq_true]; exact ⟨rfl, _, call1 ok_L_eqBookS (_, _) [] (hpre := by (try dsimp only); exact ⟨by omega, by omega⟩), rfl, rfl, rfl⟩)
        refine gg1 ?_
        refine g1 ?_
        refine g1 ?_
        refine gg1 ?_
        refine gg1 ?_
        refine gg1 ?_
        refine g1 ?_
        refine awp_cond rfl (fun hc3 => ?_) (fun hc3 => ?_)
        · skip
          exfalso; simp [ask] at hc3; omega
        · skip
          refine awp_skip ?_
          refine awp_seq ?_
          refine r1 T0_ok hP hm hN ?_
          refine g1 ?_
          refine awp_seq ?_
          refine r1 T0_ok hP hm hN ?_
          refine g1 ?_
          refine g1 ?_
          refine gc1 ?_ (call1 ok_L_markBookS ((splitR xs high).1, _) [4] (hpre := by (try dsimp only); exact ⟨by omega, by omega, by omega⟩))
          refine g1 ?_
          refine awp_seq ?_
          refine r1 T0_ok hP hm hN ?_
          refine g1 ?_
          refine g1 ?_
          refine gc1 ?_ (call1 ok_L_markBookS ((splitR xs high).2.1, _) [5] (hpre := by (try dsimp only); exact ⟨by omega, by omega, by omega⟩))
          refine g1 ?_
          refine awp_seq ?_
          refine r1 T0_ok hP hm hN ?_
          refine g1 ?_
          refine awp_seq ?_
          refine r1 T0_ok hP hm hN ?_
          refine g1 ?_
          refine g1 ?_
          refine gc1 ?_ (call1 ok_L_heldBookS (_, _) [] (hpre := by (try dsimp only); exact ⟨by rw [mkd_book_len]; omega, by omega, by rw [mkd_book_len]; omega⟩)) (hst := by simp +decide (disch := omega) only [nrm, lk_nrm, dc_nrm, mk_nrm, mf_nrm, ti_nrm, ls_nrm, mp_nrm, nb_nrm, hset, pick_and, pick_or, ↓reduceIte, Nat.reduceAdd, wI64, wI32, wI16, wI8, wU8, List.length_map, Int.toNat_natCast, heldR_book_mkd]; rfl)
          refine g1 ?_
          refine awp_seq ?_
          refine awp_seq ?_
          refine r1 T0_ok hP hm hN ?_
          refine g1 ?_
          refine g1 ?_
          refine awp_cond rfl (fun hc4 => ?_) (fun hc4 => ?_)
          · skip
            exfalso; simp [ask] at hc4; omega
          · skip
            refine awp_skip ?_
            refine awp_seq ?_
            refine r1 T0_ok hP hm hN ?_
            refine g1 ?_
            refine g1 ?_
            refine gc1 ?_ (call1 ok_L_heldBookS (_, _) [] (hpre := by (try dsimp only); exact ⟨by rw [mkd_book_len]; omega, by omega, by rw [mkd_book_len]; omega⟩)) (hst := by simp +decide (disch := omega) only [nrm, lk_nrm, dc_nrm, mk_nrm, mf_nrm, ti_nrm, ls_nrm, mp_nrm, nb_nrm, hset, pick_and, pick_or, ↓reduceIte, Nat.reduceAdd, wI64, wI32, wI16, wI8, wU8, List.length_map, Int.toNat_natCast, heldR_book_mkd]; rfl)
            refine g1 ?_
            refine awp_seq ?_
            refine awp_seq ?_
            refine r1 T0_ok hP hm hN ?_
            refine g1 ?_
            refine g1 ?_
            refine awp_cond rfl (fun hc5 => ?_) (fun hc5 => ?_)
            · skip
              exfalso; simp [ask] at hc5; omega
            · skip
              refine awp_skip ?_
              refine awp_seq ?_
              refine awp_seq ?_
              refine r1 T0_ok hP hm hN ?_
              refine g1 ?_
              refine g1 ?_
              refine g1 ?_
              refine awp_cond rfl (fun hc6 => ?_) (fun hc6 => ?_)
              · skip
                exfalso; simp [ask] at hc6
              · skip
                refine awp_skip ?_
                refine awp_seq ?_
                refine r1 T0_ok hP hm hN ?_
                refine g1 ?_
                refine gc1 ?_ (call1 ok_L_toBookS _ [] (hpre := by (try dsimp only); exact hl))
                refine g1 ?_
                refine gc1 ?_ (call1 ok_I_SplitBooks (_, _) [] (hpre := by (try dsimp only); exact ⟨hv, hl⟩))
                refine g1 ?_
                refine g1 ?_
                refine g1 ?_
                refine g1 ?_
                refine g1 ?_
                refine g1 ?_
                refine g1 ?_
                refine awp_seq ?_
                refine awp_seq ?_
                refine r1 T0_ok hP hm hN ?_
                refine g1 ?_
                refine g1 ?_
                refine gc1 ?_ (call1 ok_L_eqBookS (_, _) [] (hpre := by (try dsimp only); exact ⟨by omega, by omega⟩))
                refine g1 ?_
                refine g1 ?_
                refine gg1 ?_
                refine gg1 ?_
                refine ggc1 ?_ (hs := by intro hb; simp +decide only [hb, gd_tt, gd_ff, beq_self_eq_true, Bool.true_and, beq_true]; exact ⟨rfl, _, call1 ok_L_eqBookS (_, _) [] (hpre := by (try dsimp only); exact ⟨by omega, by omega⟩), rfl, rfl, rfl⟩)
                refine gg1 ?_
                refine g1 ?_
                refine g1 ?_
                refine gg1 ?_
                refine gg1 ?_
                refine gg1 ?_
                refine g1 ?_
                refine awp_cond rfl (fun hc7 => ?_) (fun hc7 => ?_)
                · skip
                  exfalso; simp [ask] at hc7
                · skip
                  refine awp_skip ?_
                  refine awp_seq ?_
                  refine r1 T0_ok hP hm hN ?_
                  refine g1 ?_
                  refine awp_seq ?_
                  refine r1 T0_ok hP hm hN ?_
                  refine g1 ?_
                  refine g1 ?_
                  refine gc1 ?_ (call1 ok_L_heldBookS (_, _) [] (hpre := by (try dsimp only); exact ⟨by rw [mkd_book_len]; omega, by omega, by rw [mkd_book_len]; omega⟩)) (hst := by simp +decide (disch := omega) only [nrm, lk_nrm, dc_nrm, mk_nrm, mf_nrm, ti_nrm, ls_nrm, mp_nrm, nb_nrm, hset, pick_and, pick_or, ↓reduceIte, Nat.reduceAdd, wI64, wI32, wI16, wI8, wU8, List.length_map, Int.toNat_natCast, heldR_book_mkd]; rfl)
                  refine g1 ?_
                  refine awp_seq ?_
                  refine awp_seq ?_
                  refine r1 T0_ok hP hm hN ?_
                  refine g1 ?_
                  refine g1 ?_
                  refine awp_cond rfl (fun hc8 => ?_) (fun hc8 => ?_)
                  · skip
                    exfalso; simp [ask] at hc8; omega
                  · skip
                    refine awp_skip ?_
                    refine awp_seq ?_
                    refine r1 T0_ok hP hm hN ?_
                    refine g1 ?_
                    refine g1 ?_
                    refine gc1 ?_ (call1 ok_L_heldBookS (_, _) [] (hpre := by (try dsimp only); exact ⟨by rw [mkd_book_len]; omega, by omega, by rw [mkd_book_len]; omega⟩)) (hst := by simp +decide (disch := omega) only [nrm, lk_nrm, dc_nrm, mk_nrm, mf_nrm, ti_nrm, ls_nrm, mp_nrm, nb_nrm, hset, pick_and, pick_or, ↓reduceIte, Nat.reduceAdd, wI64, wI32, wI16, wI8, wU8, List.length_map, Int.toNat_natCast, heldR_book_mkd]; rfl)
                    refine g1 ?_
                    refine awp_seq ?_
                    refine awp_seq ?_
                    refine r1 T0_ok hP hm hN ?_
                    refine g1 ?_
                    refine g1 ?_
                    refine awp_cond rfl (fun hc9 => ?_) (fun hc9 => ?_)
                    · skip
                      exfalso; simp [ask] at hc9; omega
                    · skip
                      refine awp_skip ?_
                      refine awp_seq ?_
                      refine awp_seq ?_
                      refine r1 T0_ok hP hm hN ?_
                      refine g1 ?_
                      refine g1 ?_
                      refine g1 ?_
                      refine awp_cond rfl (fun hc10 => ?_) (fun hc10 => ?_)
                      · skip
                        exfalso; simp [ask] at hc10
                      · skip
                        refine awp_skip ?_
                        refine awp_seq ?_
                        refine r1 T0_ok hP hm hN ?_
                        refine g1 ?_
                        refine awp_ret ?_
                        refine fin_mk [] rfl rfl ?_ trivial (by decide)
                        rfl
end Go.Proofs.Ytboehgjdppikaaa.Abs
