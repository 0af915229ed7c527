import Derived.Test.YtclgddkepbpalaaC1
set_option linter.unusedVariables false
set_option linter.unusedSimpArgs false
namespace Go.Proofs.Ytclgddkepbpalaa.Abs
open Go Go.RowKit
def cseF (xs ys : List Int) : Nat → List Int
  | 0 => []
  | i + 1 => cseF xs ys i ++ List.replicate (ys.getD ((xs.length : Int) - 1 - i).toNat 0).toNat (xs.getD ((xs.length : Int) - 1 - i).toNat 0)
theorem cseF_len {xs ys : List Int} (h : ∀ n ∈ ys, 0 ≤ n ∧ n ≤ 12) : ∀ i, (cseF xs ys i).length ≤ 12 * i
  | 0 => by simp [cseF]
  | i + 1 => by
    have ih := cseF_len (xs := xs) h i
    have : (ys.getD ((xs.length : Int) - 1 - i).toNat 0).toNat ≤ 12 := by
      rcases Nat.lt_or_ge ((xs.length : Int) - 1 - i).toNat ys.length with h1 | h1
      · have := h _ (getD_mem' (d := 0) h1); omega
      · rw [List.getD, List.getElem?_eq_none h1]; simp
    rw [cseF, List.length_append, List.length_replicate]
    omega
theorem cseF_mem {xs ys : List Int} (p : Int → Prop) (h : ∀ n ∈ xs, p n) : ∀ i, i ≤ xs.length → ∀ n ∈ cseF xs ys i, p n
  | 0, _ => by simp [cseF]
  | i + 1, hi => by
    intro n hn
    rw [cseF, List.mem_append] at hn
    rcases hn with hn | hn
    · exact cseF_mem p h i (by omega) n hn
    · rw [List.mem_replicate] at hn
      rw [hn.2]
      exact h _ (getD_mem' (by omega))
def caseOk (w l : Int) (hs : List Int) : Bool := (inI w 1 2000 && (inI l 1 200000 && inI hs.length 1 12)) && hs.all (fun n => inI n 50 1000)
def caseR (ok : Bool) (xs ys : List Int) (w l : Int) : Cs × Int :=
  if !ok then ((0, 0, []), 1) else if !inI w 1 2000 || !countsOk xs ys 12 || !inI l 1 200000 then ((0, 0, []), 2) else if !inI (cseF xs ys xs.length).length 1 12 then ((0, 0, []), 3) else ((w, l, cseF xs ys xs.length), 0)
theorem caseR_len (ok : Bool) (xs ys : List Int) (w l : Int) : (caseR ok xs ys w l).1.2.2.length ≤ 12 := by
  unfold caseR
  repeat' split
  · simp
  · simp
  · simp
  · rename_i h
    have := inI_iff.1 (show inI (cseF xs ys xs.length).length 1 12 = true by simpa using h)
    show (cseF xs ys xs.length).length ≤ 12
    omega
theorem counts_b {xs ys : List Int} {m : Int} (h : countsOk xs ys m = true) : (∀ n ∈ ys, 0 ≤ n ∧ n ≤ m) ∧ ys.length = xs.length := by
  simp only [countsOk, Bool.and_eq_true, List.all_eq_true, decide_eq_true_eq] at h
  exact ⟨fun n hn => inI_iff.1 (h.1 n hn), by omega⟩
theorem or3 {x y z : Bool} (h : (!x || !y || !z) = false) : x = true ∧ y = true ∧ z = true := by cases x <;> cases y <;> cases z <;> simp_all
theorem validH_b {a b c : Int} {xs : List Int} (h : validH a b c xs = true) : (∀ n ∈ xs, 50 ≤ n ∧ n ≤ 1000) ∧ xs.length ≤ 6 := by
  simp only [validH, Bool.and_eq_true, List.all_eq_true] at h
  obtain ⟨⟨⟨h1, h2⟩, h3⟩, h4⟩ := h
  obtain ⟨ha, hb, hc⟩ := pegsOk_iff.1 h1
  have h2 := inI_iff.1 h2
  refine ⟨fun n hn => ?_, by omega⟩
  have h5 := h4 n hn
  rw [isH, Bool.and_eq_true] at h5
  have := inI_iff.1 h5.1
  omega
theorem rep_succ {α : Type} (k : Nat) (v : α) : List.replicate (k + 1) v = List.replicate k v ++ [v] := List.replicate_succ'

noncomputable abbrev s_S_l02Ok : Spec Cs where
  args := fun x => [.rptr 3 [[.val (.int .i16 x.1), .val (.int .i32 x.2.1), .sl 1 (i16s x.2.2)]] 0 0]
  pre := fun x => (-32768 ≤ x.1 ∧ x.1 ≤ 32767) ∧ (-2147483648 ≤ x.2.1 ∧ x.2.1 ≤ 2147483647) ∧ (∀ n ∈ x.2.2, -32768 ≤ n ∧ n ≤ 32767) ∧ x.2.2.length ≤ 1048576
  res := fun x => .val (.bool (caseOk x.1 x.2.1 x.2.2))

set_option maxRecDepth 20000 in
set_option maxHeartbeats 1000000 in
theorem ok_S_l02Ok : FnOk Pr 36 s_S_l02Ok := by
  refine fn_ok 1 0 T0_ok Go.Proofs.Try.func36 rfl (enters_of Go.Proofs.Try.func36 rfl rfl) (fun _ => rfl) (fun _ => rfl) (fun _ => rfl) ?_
  rintro ⟨w, l, hs⟩ ⟨hw, hld, hv, hl⟩ C hP hN hm hG
  change awp C _ _ ⟨[(0, .rptr 3 [[.val (.int .i16 w), .val (.int .i32 l), .sl 1 (i16s hs)]] 0 0)], [], 0⟩
  simp only at hw hld hv hl
  refine awp_seq ?_
  refine r1 T0_ok hP hm hN ?_
  refine g1 ?_
  refine awp_seq ?_
  refine awp_seq ?_
  refine r1 T0_ok hP hm hN ?_
  refine g1 ?_
  refine g1 ?_
  refine g1 ?_
  refine g1 ?_
  refine g1 ?_
  refine gc1 ?_ (call1 ok_S_l00In (_, _, _) [])
  refine g1 ?_
  refine g1 ?_
  refine gg1 ?_
  refine gg1 ?_
  refine gg1 ?_
  refine gg1 ?_
  refine gg1 ?_
  refine ggc1 ?_ (hs := by intro hb; simp +decide only [hb, gd_tt, gd_ff, beq_self_eq_true, Bool.true_and, beq_true]; exact ⟨rfl, _, call1 ok_S_l00In (_, _, _) [], rfl, rfl, rfl⟩)
  refine gg1 ?_
  refine g1 ?_
  refine g1 ?_
  refine gg1 ?_
  refine gg1 ?_
  refine gg1 ?_
  refine gg1 ?_
  refine gg1 ?_
  refine ggc1 ?_ (hs := by intro hb; simp +decide only [hb, gd_tt, gd_ff, beq_self_eq_true, Bool.true_and, beq_true]; exact ⟨rfl, _, call1 ok_S_l00In (_, _, _) [], rfl, rfl, rfl⟩)
  refine gg1 ?_
  refine g1 ?_
  refine awp_cond rfl (fun hc0 => ?_) (fun hc0 => ?_)
  · skip
    refine awp_seq ?_
    refine r1 T0_ok hP hm hN ?_
    refine g1 ?_
    refine awp_ret ?_
    refine fin_mk [] rfl rfl ?_ trivial (by decide)
    show D.val (.bool (caseOk w l hs)) = D.val (.bool false)
    have e : (inI w 1 2000 && (inI l 1 200000 && inI hs.length 1 12)) = false := by rw [← Bool.not_eq_true]; intro h; rw [Bool.and_eq_true, Bool.and_eq_true] at h; rw [h.1, h.2.1, h.2.2] at hc0; simp at hc0
    rw [caseOk, e]; rfl
  · skip
    have hall3 : (inI w 1 2000 && (inI l 1 200000 && inI hs.length 1 12)) = true := by obtain ⟨e1, e2, e3⟩ := or3 hc0; rw [e1, e2, e3]; rfl
    refine awp_skip ?_
    refine awp_seq ?_
    refine awp_seq ?_
    refine r1 T0_ok hP hm hN ?_
    refine g1 ?_
    refine awp_block ?_
    refine awp_loop (fun n st => ∃ i : Nat, i ≤ hs.length ∧ (∀ j, j < i → inI (hs.getD j 0) 50 1000 = true) ∧ n = hs.length - i ∧ st = ⟨[(3, .val (.int .i64 ((i : Nat) : Int))), (0, .rptr 3 [[.val (.int .i16 w), .val (.int .i32 l), .sl 1 (i16s hs)]] 0 0)], [], 0⟩) (hs.length) ⟨_, weak_sl (sub_cons rfl (sub_cons rfl (sub_nil))), 0, by omega, fun j h => by omega, rfl, rfl⟩ ?_
    rintro n st ⟨i, hii, hall, hni, rfl⟩
    refine awp_seq ?_
    refine awp_seq ?_
    refine r1 T0_ok hP hm hN ?_
    refine g1 ?_
    refine g1 ?_
    refine g1 ?_
    refine g1 ?_
    refine g1 ?_
    refine g1 ?_
    refine g1 ?_
    refine awp_cond rfl (fun hc1 => ?_) (fun hc1 => ?_)
    · skip
      have hlti : i < hs.length := by simpa using hc1
      have hgx := ints_get .i16 hs i hlti
      have hgb := hv _ (getD_mem' (d := 0) hlti)
      refine awp_skip ?_
      refine awp_seq ?_
      refine awp_block ?_
      refine awp_seq ?_
      refine r1 T0_ok hP hm hN ?_
      refine g1 ?_
      refine g1 ?_
      refine g1 ?_
      refine g1 ?_
      refine g1 ?_
      refine g1 ?_
      refine g1 ?_
      refine g1 ?_
      refine gc1 ?_ (call1 ok_S_l00In (_, _, _) [])
      refine g1 ?_
      refine awp_cond rfl (fun hc2 => ?_) (fun hc2 => ?_)
      · skip
        refine awp_seq ?_
        refine r1 T0_ok hP hm hN ?_
        refine g1 ?_
        refine awp_ret ?_
        refine fin_mk [] rfl rfl ?_ trivial (by decide)
        show D.val (.bool (caseOk w l hs)) = D.val (.bool false)
        rw [caseOk, all_false (d := 0) hlti (by simpa using hc2), Bool.and_false]
      · skip
        refine awp_skip ?_
        refine r1 T0_ok hP hm hN ?_
        refine g1 ?_
        refine g1 ?_
        refine g1 ?_
        refine ⟨hs.length - (i + 1), _, by omega, weak_sl (sub_cons rfl (sub_cons rfl (sub_nil))), i + 1, by omega, upto_step hall (by simpa using hc2), rfl, rfl⟩
    · skip
      have hgei : ¬ i < hs.length := by simpa using hc1
      have heqi : i = hs.length := by omega
      refine awp_exit ?_
      repeat refine thenA_exit ?_
      refine blockA_hit ?_
      refine awp_seq ?_
      refine r1 T0_ok hP hm hN ?_
      refine g1 ?_
      refine awp_ret ?_
      refine fin_mk [] rfl rfl ?_ trivial (by decide)
      show D.val (.bool (caseOk w l hs)) = D.val (.bool true)
      rw [caseOk, hall3, all_true (d := 0) (fun j hj => hall j (by omega))]
      rfl

noncomputable abbrev s_I_isShelfWide : Spec Int where
  args := fun n => [.val (.int .i64 n)]
  res := fun n => .val (.bool (inI n 1 2000))

set_option maxRecDepth 20000 in
set_option maxHeartbeats 1000000 in
theorem ok_I_isShelfWide : FnOk Pr 38 s_I_isShelfWide := by
  refine fn_ok 1 0 T0_ok Go.Proofs.Try.func38 rfl (enters_of Go.Proofs.Try.func38 rfl rfl) (fun _ => rfl) (fun _ => rfl) (fun _ => rfl) ?_
  rintro n - C hP hN hm hG
  change awp C _ _ ⟨[(0, .val (.int .i64 n))], [], 0⟩
  refine awp_seq ?_
  refine r1 T0_ok hP hm hN ?_
  refine g1 ?_
  refine awp_seq ?_
  refine r1 T0_ok hP hm hN ?_
  refine g1 ?_
  refine gc1 ?_ (call1 ok_I_within_int64 (_, _, _) [])
  refine g1 ?_
  refine awp_ret ?_
  refine fin_mk [] rfl rfl ?_ trivial (by decide)
  rfl

theorem case_lim {xs ys : List Int} {w l : Int} (h : ∀ n ∈ xs, 50 ≤ n ∧ n ≤ 1000) (hw : inI w 1 2000 = true) (hl : inI l 1 200000 = true) : (!caseOk w l (cseF xs ys xs.length)) = !inI (cseF xs ys xs.length).length 1 12 := by
  have hall : (cseF xs ys xs.length).all (fun n => inI n 50 1000) = true := List.all_eq_true.2 (fun n hn => inI_iff.2 (cseF_mem _ h _ (Nat.le_refl _) n hn))
  rw [caseOk, hw, hl, hall, Bool.and_true, Bool.true_and, Bool.true_and]

noncomputable abbrev s_S_CaseFrom : Spec ((Int × Int × Int) × List Int × List Int × Int × Int) where
  args := fun x => [pegs x.1, .sl 1 (i64s x.2.1), .sl 1 (i64s x.2.2.1), .val (.int .i64 x.2.2.2.1), .val (.int .i64 x.2.2.2.2)]
  pre := fun x => isPegs x.1 ∧ x.2.1.length ≤ 9223372036854775807 ∧ x.2.2.1.length ≤ 9223372036854775807
  new := fun x => [⟨22, 1, false, i16s (caseR (okH x.1.1 x.1.2.1 x.1.2.2 x.2.1) x.2.1 x.2.2.1 x.2.2.2.1 x.2.2.2.2).1.2.2⟩]
  res := fun x => .tup [.agg [.val (.int .i16 (caseR (okH x.1.1 x.1.2.1 x.1.2.2 x.2.1) x.2.1 x.2.2.1 x.2.2.2.1 x.2.2.2.2).1.1), .val (.int .i32 (caseR (okH x.1.1 x.1.2.1 x.1.2.2 x.2.1) x.2.1 x.2.2.1 x.2.2.2.1 x.2.2.2.2).1.2.1), .own 0], .val (.int .i64 (caseR (okH x.1.1 x.1.2.1 x.1.2.2 x.2.1) x.2.1 x.2.2.1 x.2.2.2.1 x.2.2.2.2).2)]

set_option maxRecDepth 20000 in
set_option maxHeartbeats 4000000 in
theorem ok_S_CaseFrom : FnOk Pr 8 s_S_CaseFrom := by
  refine fn_ok 5 0 T0_ok Go.Proofs.Try.func8 rfl (enters_of Go.Proofs.Try.func8 rfl rfl) (fun _ => rfl) (fun _ => rfl) (fun _ => rfl) ?_
  rintro ⟨⟨a, b, c⟩, xs, ys, w, l⟩ ⟨hp, hl, hly⟩ C hP hN hm hG
  change awp C _ _ ⟨[(0, .val (.agg #[.int .i16 a, .int .i16 b, .int .i16 c])), (1, .sl 1 (i64s xs)), (2, .sl 1 (i64s ys)), (3, .val (.int .i64 w)), (4, .val (.int .i64 l))], [], 0⟩
  simp only at hl hly
  refine awp_seq ?_
  refine r1 T0_ok hP hm hN ?_
  refine g1 ?_
  refine g1 ?_
  refine g1 ?_
  refine awp_seq ?_
  refine awp_seq ?_
  refine r1 T0_ok hP hm hN ?_
  refine g1 ?_
  refine g1 ?_
  refine gc1 ?_ (call1 ok_S_l04Ok ((_, _, _), _) [] (hargs := (by exact args_cons arga_val (args_cons arga_slsl (args_nil)))) (hpre := by (try dsimp only); exact ⟨hp, hl⟩))
  refine g1 ?_
  refine awp_cond rfl (fun hc0 => ?_) (fun hc0 => ?_)
  · skip
    have hr : caseR (okH a b c xs) xs ys w l = ((0, 0, []), 1) := by rw [caseR, if_pos hc0]
    refine awp_seq ?_
    refine r1 T0_ok hP hm hN ?_
    refine g1 ?_
    refine g1 ?_
    refine g1 ?_
    refine awp_weak (weak_nilO 1 0 2 22 1 rfl rfl rfl rfl) ?_
    refine awp_ret ?_
    refine fin_mk [2] rfl rfl ?_ (by simp only [hr]; exact objs_cons rfl rfl rfl rfl rfl (.inl rfl) objs_nil) (by decide)
    show D.tup [.agg [.val (.int .i16 (caseR (okH a b c xs) xs ys w l).1.1), .val (.int .i32 (caseR (okH a b c xs) xs ys w l).1.2.1), .own 2], .val (.int .i64 (caseR (okH a b c xs) xs ys w l).2)] = _
    rw [hr]
    rfl
  · skip
    have hxs := (validH_b (a := a) (b := b) (c := c) (xs := xs) (by rw [← okH_validH]; simpa using hc0)).1
    have hxl := (validH_b (a := a) (b := b) (c := c) (xs := xs) (by rw [← okH_validH]; simpa using hc0)).2
    refine awp_skip ?_
    refine awp_seq ?_
    refine awp_seq ?_
    refine r1 T0_ok hP hm hN ?_
    refine g1 ?_
    refine gc1 ?_ (call1 ok_S_l00In (_, _, _) [])
    refine g1 ?_
    refine g1 ?_
    refine gg1 ?_
    refine gg1 ?_
    refine ggc1 ?_ (hs := by intro hb; simp +decide only [hb, gd_tt, gd_ff, beq_self_eq_true, Bool.true_and, beq_true]; exact ⟨rfl, _, call1 ok_S_l04Counts (_, _, _) [] (hpre := by (try dsimp only); exact ⟨hl, hly⟩), rfl, rfl, rfl⟩)
    refine gg1 ?_
    refine g1 ?_
    refine g1 ?_
    refine gg1 ?_
    refine ggc1 ?_ (hs := by intro hb; simp +decide only [hb, gd_tt, gd_ff, beq_self_eq_true, Bool.true_and, beq_true]; exact ⟨rfl, _, call1 ok_S_l00In (_, _, _) [], rfl, rfl, rfl⟩)
    refine gg1 ?_
    refine g1 ?_
    refine awp_cond rfl (fun hc1 => ?_) (fun hc1 => ?_)
    · skip
      have hr : caseR (okH a b c xs) xs ys w l = ((0, 0, []), 2) := by rw [caseR, if_neg (by rw [hc0]; simp), if_pos hc1]
      refine awp_seq ?_
      refine r1 T0_ok hP hm hN ?_
      refine g1 ?_
      refine g1 ?_
      refine g1 ?_
      refine awp_weak (weak_nilO 1 0 2 22 1 rfl rfl rfl rfl) ?_
      refine awp_ret ?_
      refine fin_mk [2] rfl rfl ?_ (by simp only [hr]; exact objs_cons rfl rfl rfl rfl rfl (.inl rfl) objs_nil) (by decide)
      show D.tup [.agg [.val (.int .i16 (caseR (okH a b c xs) xs ys w l).1.1), .val (.int .i32 (caseR (okH a b c xs) xs ys w l).1.2.1), .own 2], .val (.int .i64 (caseR (okH a b c xs) xs ys w l).2)] = _
      rw [hr]
      rfl
    · skip
      obtain ⟨hw, hct, hld⟩ := or3 hc1
      obtain ⟨hys, hyl⟩ := counts_b hct
      have hw2 := inI_b hw
      have hld2 := inI_b hld
      refine awp_skip ?_
      refine awp_seq ?_
      refine r1 T0_ok hP hm hN ?_
      refine g1 ?_
      refine g1 ?_
      refine g1 ?_
      refine g1 ?_
      refine g1 ?_
      refine g1 ?_
      refine g1 ?_
      refine awp_seq ?_
      refine awp_seq ?_
      refine r1 T0_ok hP hm hN ?_
      refine g1 ?_
      refine g1 ?_
      refine g1 ?_
      refine g1 ?_
      refine awp_block ?_
      refine awp_loop (fun n st => ∃ i : Nat, i ≤ xs.length ∧ n = xs.length - i ∧ st = ⟨[(13, .val (.int .i64 ((xs.length : Int) - 1 - ((i : Nat) : Int)))), (12, .ptr 2 0 0), (10, .ptr 1 0 0), (1, .sl 1 (i64s xs)), (2, .sl 1 (i64s ys))], [(3, ⟨22, 1, false, i16s (cseF xs ys i)⟩), (2, ⟨28, 3, true, [[.val (.int .i16 w), .val (.int .i32 l), .own 3]]⟩), (1, ⟨28, 3, true, [[.val (.int .i16 0), .val (.int .i32 0), .nil]]⟩), (0, ⟨31, 3, true, [[.val (.int .i16 a), .val (.int .i16 b), .val (.int .i16 c)]]⟩)], 4⟩) xs.length ⟨_, (by rw [show (xs.length : Int) - 1 - ((0 : Nat) : Int) = (xs.length : Int) - 1 by omega]; exact Weak.trans (weak_nilO 2 0 2 22 1 rfl rfl rfl rfl) (weak_sl (sub_cons rfl (sub_cons rfl (sub_cons rfl (sub_cons rfl (sub_cons rfl (sub_nil)))))))), 0, by omega, rfl, rfl⟩ ?_
      rintro n st ⟨i, hi, hn, rfl⟩
      have hcl := cseF_len (xs := xs) hys i
      refine awp_seq ?_
      refine awp_seq ?_
      refine r1 T0_ok hP hm hN ?_
      refine g1 ?_
      refine g1 ?_
      refine awp_cond rfl (fun hc2 => ?_) (fun hc2 => ?_)
      · skip
        have hlti : i < xs.length := by simp only [decide_eq_true_eq] at hc2; omega
        have hyb := hys _ (getD_mem' (d := 0) (show ((xs.length : Int) - 1 - i).toNat < ys.length by omega))
        have hxb := hxs _ (getD_mem' (d := 0) (show ((xs.length : Int) - 1 - i).toNat < xs.length by omega))
        refine awp_skip ?_
        refine awp_seq ?_
        refine awp_block ?_
        refine awp_seq ?_
        refine r1 T0_ok hP hm hN ?_
        refine g1 ?_
        refine awp_block ?_
        refine awp_loop (fun n st => ∃ k : Nat, k ≤ (ys.getD ((xs.length : Int) - 1 - i).toNat 0).toNat ∧ n = (ys.getD ((xs.length : Int) - 1 - i).toNat 0).toNat - k ∧ st = ⟨[(14, .val (.int .i64 ((k : Nat) : Int))), (13, .val (.int .i64 ((xs.length : Int) - 1 - ((i : Nat) : Int)))), (12, .ptr 2 0 0), (10, .ptr 1 0 0), (1, .sl 1 (i64s xs)), (2, .sl 1 (i64s ys))], [(3, ⟨22, 1, false, i16s (cseF xs ys i ++ List.replicate k (xs.getD ((xs.length : Int) - 1 - i).toNat 0))⟩), (2, ⟨28, 3, true, [[.val (.int .i16 w), .val (.int .i32 l), .own 3]]⟩), (1, ⟨28, 3, true, [[.val (.int .i16 0), .val (.int .i32 0), .nil]]⟩), (0, ⟨31, 3, true, [[.val (.int .i16 a), .val (.int .i16 b), .val (.int .i16 c)]]⟩)], 4⟩) (ys.getD ((xs.length : Int) - 1 - i).toNat 0).toNat ⟨_, (by rw [show cseF xs ys i ++ List.replicate 0 (xs.getD ((xs.length : Int) - 1 - i).toNat 0) = cseF xs ys i by simp]; exact weak_sl (sub_cons rfl (sub_cons rfl (sub_cons rfl (sub_cons rfl (sub_cons rfl (sub_cons rfl (sub_nil)))))))), 0, by omega, rfl, rfl⟩ ?_
        rintro n st ⟨k, hk, hn2, rfl⟩
        have hcl2 : (cseF xs ys i ++ List.replicate k (xs.getD ((xs.length : Int) - 1 - i).toNat 0)).length = (cseF xs ys i).length + k := by simp
        have hrl : (List.replicate k (xs.getD ((xs.length : Int) - 1 - i).toNat 0)).length = k := List.length_replicate
        refine awp_seq ?_
        refine awp_seq ?_
        refine r1 T0_ok hP hm hN ?_
        refine g1 ?_
        refine g1 ?_
        refine g1 ?_
        refine g1 ?_
        refine g1 ?_
        refine g1 ?_
        refine awp_cond rfl (fun hc3 => ?_) (fun hc3 => ?_)
        · skip
          have hltk : k < (ys.getD ((xs.length : Int) - 1 - i).toNat 0).toNat := by simp only [decide_eq_true_eq] at hc3; omega
          refine awp_skip ?_
          refine awp_seq ?_
          refine awp_block ?_
          refine awp_drawS T0_ok hP hm hN Pr_mix [0, 1, 2, 3, 4, 5, 6, 7, 8, 9, 10, 11] [7] 8 _ rfl rfl rfl (by rfl) ?_
          refine d1 T0_ok ?_
          refine d1 T0_ok ?_
          refine d1 T0_ok ?_
          refine d1 T0_ok ?_
          refine d1 T0_ok ?_
          refine d1 T0_ok ?_
          refine d1 T0_ok ?_
          refine dp1 ?_ (oprel_astep T0_ok (by rfl) rfl (by first | trivial | rfl | exact ⟨rfl, rfl⟩ | exact ⟨rfl, rfl, fun _ => rfl, Nat.le_of_ble_eq_true rfl, .inl rfl⟩ | exact ⟨rfl, rfl, fun h => (nomatch h), Nat.le_of_ble_eq_true rfl, .inl rfl⟩ | exact ⟨rfl, rfl, fun _ => rfl, Nat.le_of_ble_eq_true rfl, .inr rfl⟩ | exact ⟨rfl, rfl, fun h => (nomatch h), Nat.le_of_ble_eq_true rfl, .inr rfl⟩ | omega | exact ⟨rfl, by (repeat (first | exact fm_nil | refine fm_cons ⟨rfl, rfl⟩ ?_)), Nat.le_of_ble_eq_true rfl, Nat.le_of_ble_eq_true rfl⟩ | (refine ⟨?_, ?_, ?_, ?_, ?_, ?_, ?_⟩ <;> first | omega | exact Nat.le_of_ble_eq_true rfl) | exact ⟨rfl, by omega, by (try simp only [List.length_map, List.length_set]); omega⟩ | exact ⟨rfl, by omega, by simp only [Int.toNat_natCast]; omega, by omega, Nat.le_of_ble_eq_true rfl, rfl⟩))
          refine dreg_nil ?_
          refine ga1 ?_
          refine g1 ?_
          refine g1 ?_
          refine r1 T0_ok hP hm hN ?_
          refine g1 ?_
          refine g1 ?_
          refine g1 ?_
          exact ⟨_, _, by omega, (by rw [rep_succ, ← List.append_assoc, i16s_app]; exact Weak.trans (weak_drop 4) (Weak.trans (weak_nx (nx' := 4) (by omega) (by rfl)) (weak_sl (sub_cons rfl (sub_cons rfl (sub_cons rfl (sub_cons rfl (sub_cons rfl (sub_cons rfl (sub_nil)))))))))), k + 1, by omega, rfl, rfl⟩
        · skip
          have hgek : ¬ k < (ys.getD ((xs.length : Int) - 1 - i).toNat 0).toNat := by simp only [decide_eq_false_iff_not] at hc3; omega
          obtain rfl : k = (ys.getD ((xs.length : Int) - 1 - i).toNat 0).toNat := by omega
          refine awp_exit ?_
          repeat refine thenA_exit ?_
          refine blockA_hit ?_
          refine r1 T0_ok hP hm hN ?_
          refine g1 ?_
          refine g1 ?_
          refine g1 ?_
          exact ⟨_, _, by omega, (by rw [cseF, show (xs.length : Int) - 1 - ((i + 1 : Nat) : Int) = (xs.length : Int) - 1 - (i : Int) - 1 by omega]; exact weak_sl (sub_cons rfl (sub_cons rfl (sub_cons rfl (sub_cons rfl (sub_cons rfl (sub_nil))))))), i + 1, by omega, rfl, rfl⟩
      · skip
        have hgei : ¬ i < xs.length := by simp only [decide_eq_false_iff_not] at hc2; omega
        obtain rfl : i = xs.length := by omega
        refine awp_exit ?_
        repeat refine thenA_exit ?_
        refine blockA_hit ?_
        refine awp_seq ?_
        refine awp_seq ?_
        refine r1 T0_ok hP hm hN ?_
        refine gc1 ?_ (call1 ok_S_l02Ok (w, l, cseF xs ys xs.length) [] (hargs := (by exact args_cons (argc_rptrV (by simp) rfl rfl ⟨⟨cellV_hf rfl, cellV_hf rfl, cellV_own (by simp) rfl rfl rfl rfl, trivial⟩, trivial⟩) args_nil)) (hpre := by (try dsimp only); exact ⟨by omega, by omega, fun n hn => (by have := cseF_mem _ hxs _ (Nat.le_refl _) n hn; omega), (by have := cseF_len (xs := xs) hys xs.length; omega)⟩))
        refine g1 ?_
        refine awp_cond rfl (fun hc4 => ?_) (fun hc4 => ?_)
        · skip
          have hr : caseR (okH a b c xs) xs ys w l = ((0, 0, []), 3) := by rw [caseR, if_neg (by rw [hc0]; simp), if_neg (by rw [hc1]; simp), if_pos (by rw [← case_lim hxs hw hld]; exact hc4)]
          refine awp_seq ?_
          refine r1 T0_ok hP hm hN ?_
          refine g1 ?_
          refine g1 ?_
          refine g1 ?_
          refine awp_weak (weak_nilO 1 0 2 22 1 rfl rfl rfl rfl) ?_
          refine awp_ret ?_
          refine fin_mk [4] rfl rfl ?_ (by simp only [hr]; exact objs_cons rfl rfl rfl rfl rfl (.inl rfl) objs_nil) (by decide)
          show D.tup [.agg [.val (.int .i16 (caseR (okH a b c xs) xs ys w l).1.1), .val (.int .i32 (caseR (okH a b c xs) xs ys w l).1.2.1), .own 4], .val (.int .i64 (caseR (okH a b c xs) xs ys w l).2)] = _
          rw [hr]
          rfl
        · skip
          have hr : caseR (okH a b c xs) xs ys w l = ((w, l, cseF xs ys xs.length), 0) := by rw [caseR, if_neg (by rw [hc0]; simp), if_neg (by rw [hc1]; simp), if_neg (by rw [← case_lim hxs hw hld, hc4]; simp)]
          refine awp_skip ?_
          refine awp_seq ?_
          refine r1 T0_ok hP hm hN ?_
          refine g1 ?_
          refine g1 ?_
          refine g1 ?_
          refine awp_ret ?_
          refine fin_mk [3] rfl rfl ?_ (by simp only [hr]; exact objs_cons rfl rfl rfl rfl rfl (.inl rfl) objs_nil) (by decide)
          show D.tup [.agg [.val (.int .i16 (caseR (okH a b c xs) xs ys w l).1.1), .val (.int .i32 (caseR (okH a b c xs) xs ys w l).1.2.1), .own 3], .val (.int .i64 (caseR (okH a b c xs) xs ys w l).2)] = _
          rw [hr]
          rfl

noncomputable abbrev s_I_CaseFrom : Spec ((Int × Int × Int) × List Int × List Int × Int × Int) where
  args := fun x => [pegs x.1, .sl 1 (i64s x.2.1), .sl 1 (i64s x.2.2.1), .val (.int .i64 x.2.2.2.1), .val (.int .i64 x.2.2.2.2)]
  pre := fun x => isPegs x.1 ∧ x.2.1.length ≤ 9223372036854775807 ∧ x.2.2.1.length ≤ 9223372036854775807
  new := fun x => [⟨22, 1, false, i16s (caseR (validH x.1.1 x.1.2.1 x.1.2.2 x.2.1) x.2.1 x.2.2.1 x.2.2.2.1 x.2.2.2.2).1.2.2⟩]
  res := fun x => .tup [.agg [.val (.int .i16 (caseR (validH x.1.1 x.1.2.1 x.1.2.2 x.2.1) x.2.1 x.2.2.1 x.2.2.2.1 x.2.2.2.2).1.1), .val (.int .i32 (caseR (validH x.1.1 x.1.2.1 x.1.2.2 x.2.1) x.2.1 x.2.2.1 x.2.2.2.1 x.2.2.2.2).1.2.1), .own 0], .val (.int .i64 (caseR (validH x.1.1 x.1.2.1 x.1.2.2 x.2.1) x.2.1 x.2.2.1 x.2.2.2.1 x.2.2.2.2).2)]

set_option maxRecDepth 20000 in
set_option maxHeartbeats 4000000 in
theorem ok_I_CaseFrom : FnOk Pr 11 s_I_CaseFrom := by
  refine fn_ok 5 0 T0_ok Go.Proofs.Try.func11 rfl (enters_of Go.Proofs.Try.func11 rfl rfl) (fun _ => rfl) (fun _ => rfl) (fun _ => rfl) ?_
  rintro ⟨⟨a, b, c⟩, xs, ys, w, l⟩ ⟨hp, hl, hly⟩ C hP hN hm hG
  change awp C _ _ ⟨[(0, .val (.agg #[.int .i16 a, .int .i16 b, .int .i16 c])), (1, .sl 1 (i64s xs)), (2, .sl 1 (i64s ys)), (3, .val (.int .i64 w)), (4, .val (.int .i64 l))], [], 0⟩
  simp only at hl hly
  refine awp_seq ?_
  refine r1 T0_ok hP hm hN ?_
  refine g1 ?_
  refine g1 ?_
  refine g1 ?_
  refine awp_seq ?_
  refine awp_block ?_
  refine awp_seq ?_
  refine r1 T0_ok hP hm hN ?_
  refine g1 ?_
  refine g1 ?_
  refine gc1 ?_ (call1 ok_I_ValidHeights ((_, _, _), _) [] (hpre := by (try dsimp only); exact ⟨hp, hl⟩))
  refine g1 ?_
  refine g1 ?_
  refine awp_cond rfl (fun hc0 => ?_) (fun hc0 => ?_)
  · skip
    have hr : caseR (validH a b c xs) xs ys w l = ((0, 0, []), 1) := by rw [caseR, if_pos hc0]
    refine awp_seq ?_
    refine r1 T0_ok hP hm hN ?_
    refine g1 ?_
    refine g1 ?_
    refine g1 ?_
    refine awp_weak (weak_nilO 1 0 2 22 1 rfl rfl rfl rfl) ?_
    refine awp_ret ?_
    refine fin_mk [2] rfl rfl ?_ (by simp only [hr]; exact objs_cons rfl rfl rfl rfl rfl (.inl rfl) objs_nil) (by decide)
    show D.tup [.agg [.val (.int .i16 (caseR (validH a b c xs) xs ys w l).1.1), .val (.int .i32 (caseR (validH a b c xs) xs ys w l).1.2.1), .own 2], .val (.int .i64 (caseR (validH a b c xs) xs ys w l).2)] = _
    rw [hr]
    rfl
  · skip
    have hxs := (validH_b (a := a) (b := b) (c := c) (by simpa using hc0)).1
    have hxl := (validH_b (a := a) (b := b) (c := c) (by simpa using hc0)).2
    refine awp_seq ?_
    refine r1 T0_ok hP hm hN ?_
    refine g1 ?_
    refine gc1 ?_ (call1 ok_I_isShelfWide _ [])
    refine g1 ?_
    refine g1 ?_
    refine gg1 ?_
    refine gg1 ?_
    refine ggc1 ?_ (hs := by intro hb; simp +decide only [hb, gd_tt, gd_ff, beq_self_eq_true, Bool.true_and, beq_true]; exact ⟨rfl, _, call1 ok_I_areShelves (_, _, _) [] (hpre := by (try dsimp only); exact ⟨hl, hly⟩), rfl, rfl, rfl⟩)
    refine gg1 ?_
    refine g1 ?_
    refine g1 ?_
    refine gg1 ?_
    refine ggc1 ?_ (hs := by intro hb; simp +decide only [hb, gd_tt, gd_ff, beq_self_eq_true, Bool.true_and, beq_true]; exact ⟨rfl, _, call1 ok_I_within_int64 (_, _, _) [], rfl, rfl, rfl⟩)
    refine gg1 ?_
    refine g1 ?_
    refine g1 ?_
    refine awp_cond rfl (fun hc1 => ?_) (fun hc1 => ?_)
    · skip
      have hr : caseR (validH a b c xs) xs ys w l = ((0, 0, []), 2) := by rw [caseR, if_neg (by rw [hc0]; simp), if_pos hc1]
      refine awp_seq ?_
      refine r1 T0_ok hP hm hN ?_
      refine g1 ?_
      refine g1 ?_
      refine g1 ?_
      refine awp_weak (weak_nilO 1 0 2 22 1 rfl rfl rfl rfl) ?_
      refine awp_ret ?_
      refine fin_mk [2] rfl rfl ?_ (by simp only [hr]; exact objs_cons rfl rfl rfl rfl rfl (.inl rfl) objs_nil) (by decide)
      show D.tup [.agg [.val (.int .i16 (caseR (validH a b c xs) xs ys w l).1.1), .val (.int .i32 (caseR (validH a b c xs) xs ys w l).1.2.1), .own 2], .val (.int .i64 (caseR (validH a b c xs) xs ys w l).2)] = _
      rw [hr]
      rfl
    · skip
      obtain ⟨hw, hct, hld⟩ := or3 hc1
      obtain ⟨hys, hyl⟩ := counts_b hct
      have hw2 := inI_b hw
      have hld2 := inI_b hld
      refine awp_skip ?_
      refine awp_seq ?_
      refine r1 T0_ok hP hm hN ?_
      refine g1 ?_
      refine g1 ?_
      refine g1 ?_
      refine g1 ?_
      refine g1 ?_
      refine g1 ?_
      refine g1 ?_
      refine awp_seq ?_
      refine awp_seq ?_
      refine r1 T0_ok hP hm hN ?_
      refine g1 ?_
      refine g1 ?_
      refine g1 ?_
      refine g1 ?_
      refine awp_block ?_
      refine awp_loop (fun n st => ∃ i : Nat, i ≤ xs.length ∧ n = xs.length - i ∧ st = ⟨[(13, .val (.int .i64 ((xs.length : Int) - 1 - ((i : Nat) : Int)))), (12, .ptr 2 0 0), (10, .ptr 1 0 0), (1, .sl 1 (i64s xs)), (2, .sl 1 (i64s ys))], [(3, ⟨22, 1, false, i16s (cseF xs ys i)⟩), (2, ⟨28, 3, true, [[.val (.int .i16 w), .val (.int .i32 l), .own 3]]⟩), (1, ⟨28, 3, true, [[.val (.int .i16 0), .val (.int .i32 0), .nil]]⟩), (0, ⟨31, 3, true, [[.val (.int .i16 a), .val (.int .i16 b), .val (.int .i16 c)]]⟩)], 4⟩) xs.length ⟨_, (by rw [show (xs.length : Int) - 1 - ((0 : Nat) : Int) = (xs.length : Int) - 1 by omega]; exact Weak.trans (weak_nilO 2 0 2 22 1 rfl rfl rfl rfl) (weak_sl (sub_cons rfl (sub_cons rfl (sub_cons rfl (sub_cons rfl (sub_cons rfl (sub_nil)))))))), 0, by omega, rfl, rfl⟩ ?_
      rintro n st ⟨i, hi, hn, rfl⟩
      have hcl := cseF_len (xs := xs) hys i
      refine awp_seq ?_
      refine awp_seq ?_
      refine r1 T0_ok hP hm hN ?_
      refine g1 ?_
      refine g1 ?_
      refine awp_cond rfl (fun hc2 => ?_) (fun hc2 => ?_)
      · skip
        have hlti : i < xs.length := by simp only [decide_eq_true_eq] at hc2; omega
        have hyb := hys _ (getD_mem' (d := 0) (show ((xs.length : Int) - 1 - i).toNat < ys.length by omega))
        have hxb := hxs _ (getD_mem' (d := 0) (show ((xs.length : Int) - 1 - i).toNat < xs.length by omega))
        refine awp_skip ?_
        refine awp_seq ?_
        refine awp_block ?_
        refine awp_seq ?_
        refine r1 T0_ok hP hm hN ?_
        refine g1 ?_
        refine g1 ?_
        refine g1 ?_
        refine g1 ?_
        refine g1 ?_
        refine awp_block ?_
        refine awp_loop (fun n st => ∃ k : Nat, k ≤ (ys.getD ((xs.length : Int) - 1 - i).toNat 0).toNat ∧ n = (ys.getD ((xs.length : Int) - 1 - i).toNat 0).toNat - k ∧ st = ⟨[(52, .val (.int .i64 ((k : Nat) : Int))), (51, .val (.int .i64 (ys.getD ((xs.length : Int) - 1 - i).toNat 0))), (13, .val (.int .i64 ((xs.length : Int) - 1 - ((i : Nat) : Int)))), (12, .ptr 2 0 0), (10, .ptr 1 0 0), (1, .sl 1 (i64s xs)), (2, .sl 1 (i64s ys))], [(3, ⟨22, 1, false, i16s (cseF xs ys i ++ List.replicate k (xs.getD ((xs.length : Int) - 1 - i).toNat 0))⟩), (2, ⟨28, 3, true, [[.val (.int .i16 w), .val (.int .i32 l), .own 3]]⟩), (1, ⟨28, 3, true, [[.val (.int .i16 0), .val (.int .i32 0), .nil]]⟩), (0, ⟨31, 3, true, [[.val (.int .i16 a), .val (.int .i16 b), .val (.int .i16 c)]]⟩)], 4⟩) (ys.getD ((xs.length : Int) - 1 - i).toNat 0).toNat ⟨_, (by rw [show cseF xs ys i ++ List.replicate 0 (xs.getD ((xs.length : Int) - 1 - i).toNat 0) = cseF xs ys i by simp]; exact weak_sl (sub_cons rfl (sub_cons rfl (sub_cons rfl (sub_cons rfl (sub_cons rfl (sub_cons rfl (sub_cons rfl (sub_nil))))))))), 0, by omega, rfl, rfl⟩ ?_
        rintro n st ⟨k, hk, hn2, rfl⟩
        have hcl2 : (cseF xs ys i ++ List.replicate k (xs.getD ((xs.length : Int) - 1 - i).toNat 0)).length = (cseF xs ys i).length + k := by simp
        have hrl : (List.replicate k (xs.getD ((xs.length : Int) - 1 - i).toNat 0)).length = k := List.length_replicate
        refine awp_seq ?_
        refine r1 T0_ok hP hm hN ?_
        refine g1 ?_
        refine awp_seq ?_
        refine awp_cond rfl (fun hc3 => ?_) (fun hc3 => ?_)
        · skip
          have hltk : k < (ys.getD ((xs.length : Int) - 1 - i).toNat 0).toNat := by simp only [decide_eq_true_eq] at hc3; omega
          refine awp_skip ?_
          refine awp_seq ?_
          refine awp_block ?_
          refine awp_drawS T0_ok hP hm hN Pr_mix [0, 1, 2, 3, 4, 5, 6, 7, 8, 9, 10, 11] [7] 8 _ rfl rfl rfl (by rfl) ?_
          refine d1 T0_ok ?_
          refine d1 T0_ok ?_
          refine d1 T0_ok ?_
          refine d1 T0_ok ?_
          refine d1 T0_ok ?_
          refine d1 T0_ok ?_
          refine d1 T0_ok ?_
          refine dp1 ?_ (oprel_astep T0_ok (by rfl) rfl (by first | trivial | rfl | exact ⟨rfl, rfl⟩ | exact ⟨rfl, rfl, fun _ => rfl, Nat.le_of_ble_eq_true rfl, .inl rfl⟩ | exact ⟨rfl, rfl, fun h => (nomatch h), Nat.le_of_ble_eq_true rfl, .inl rfl⟩ | exact ⟨rfl, rfl, fun _ => rfl, Nat.le_of_ble_eq_true rfl, .inr rfl⟩ | exact ⟨rfl, rfl, fun h => (nomatch h), Nat.le_of_ble_eq_true rfl, .inr rfl⟩ | omega | exact ⟨rfl, by (repeat (first | exact fm_nil | refine fm_cons ⟨rfl, rfl⟩ ?_)), Nat.le_of_ble_eq_true rfl, Nat.le_of_ble_eq_true rfl⟩ | (refine ⟨?_, ?_, ?_, ?_, ?_, ?_, ?_⟩ <;> first | omega | exact Nat.le_of_ble_eq_true rfl) | exact ⟨rfl, by omega, by (try simp only [List.length_map, List.length_set]); omega⟩ | exact ⟨rfl, by omega, by simp only [Int.toNat_natCast]; omega, by omega, Nat.le_of_ble_eq_true rfl, rfl⟩))
          refine dreg_nil ?_
          refine ga1 ?_
          refine g1 ?_
          refine g1 ?_
          refine r1 T0_ok hP hm hN ?_
          refine g1 ?_
          refine g1 ?_
          exact ⟨_, _, by omega, (by rw [rep_succ, ← List.append_assoc, i16s_app]; exact Weak.trans (weak_drop 4) (Weak.trans (weak_nx (nx' := 4) (by omega) (by rfl)) (weak_sl (sub_cons rfl (sub_cons rfl (sub_cons rfl (sub_cons rfl (sub_cons rfl (sub_cons rfl (sub_cons rfl (sub_nil))))))))))), k + 1, by omega, rfl, rfl⟩
        · skip
          have hgek : ¬ k < (ys.getD ((xs.length : Int) - 1 - i).toNat 0).toNat := by simp only [decide_eq_false_iff_not] at hc3; omega
          obtain rfl : k = (ys.getD ((xs.length : Int) - 1 - i).toNat 0).toNat := by omega
          refine awp_exit ?_
          repeat refine thenA_exit ?_
          refine blockA_hit ?_
          refine r1 T0_ok hP hm hN ?_
          refine g1 ?_
          refine g1 ?_
          refine g1 ?_
          exact ⟨_, _, by omega, (by rw [cseF, show (xs.length : Int) - 1 - ((i + 1 : Nat) : Int) = (xs.length : Int) - 1 - (i : Int) - 1 by omega]; exact weak_sl (sub_cons rfl (sub_cons rfl (sub_cons rfl (sub_cons rfl (sub_cons rfl (sub_nil))))))), i + 1, by omega, rfl, rfl⟩
      · skip
        have hgei : ¬ i < xs.length := by simp only [decide_eq_false_iff_not] at hc2; omega
        obtain rfl : i = xs.length := by omega
        refine awp_exit ?_
        repeat refine thenA_exit ?_
        refine blockA_hit ?_
        refine awp_seq ?_
        refine awp_seq ?_
        refine r1 T0_ok hP hm hN ?_
        refine g1 ?_
        refine g1 ?_
        refine g1 ?_
        refine gc1 ?_ (call1 ok_I_within_int (_, _, _) [])
        refine g1 ?_
        refine awp_cond rfl (fun hc4 => ?_) (fun hc4 => ?_)
        · skip
          have hr : caseR (validH a b c xs) xs ys w l = ((0, 0, []), 3) := by rw [caseR, if_neg (by rw [hc0]; simp), if_neg (by rw [hc1]; simp), if_pos hc4]
          refine awp_seq ?_
          refine r1 T0_ok hP hm hN ?_
          refine g1 ?_
          refine g1 ?_
          refine g1 ?_
          refine awp_weak (weak_nilO 1 0 2 22 1 rfl rfl rfl rfl) ?_
          refine awp_ret ?_
          refine fin_mk [4] rfl rfl ?_ (by simp only [hr]; exact objs_cons rfl rfl rfl rfl rfl (.inl rfl) objs_nil) (by decide)
          show D.tup [.agg [.val (.int .i16 (caseR (validH a b c xs) xs ys w l).1.1), .val (.int .i32 (caseR (validH a b c xs) xs ys w l).1.2.1), .own 4], .val (.int .i64 (caseR (validH a b c xs) xs ys w l).2)] = _
          rw [hr]
          rfl
        · skip
          have hr : caseR (validH a b c xs) xs ys w l = ((w, l, cseF xs ys xs.length), 0) := by rw [caseR, if_neg (by rw [hc0]; simp), if_neg (by rw [hc1]; simp), if_neg (by rw [hc4]; simp)]
          refine awp_skip ?_
          refine awp_seq ?_
          refine r1 T0_ok hP hm hN ?_
          refine g1 ?_
          refine g1 ?_
          refine g1 ?_
          refine awp_ret ?_
          refine fin_mk [3] rfl rfl ?_ (by simp only [hr]; exact objs_cons rfl rfl rfl rfl rfl (.inl rfl) objs_nil) (by decide)
          show D.tup [.agg [.val (.int .i16 (caseR (validH a b c xs) xs ys w l).1.1), .val (.int .i32 (caseR (validH a b c xs) xs ys w l).1.2.1), .own 3], .val (.int .i64 (caseR (validH a b c xs) xs ys w l).2)] = _
          rw [hr]
          rfl
end Go.Proofs.Ytclgddkepbpalaa.Abs
