import Derived.Test.YtamdnmkdhpleiaaW13
set_option linter.unusedVariables false
set_option linter.unusedSimpArgs false
namespace Go.Proofs.Ytamdnmkdhpleiaa.Abs
open Go Go.RowKit


theorem validR_b {p : Int} {xs : List Pl} (h : validR p xs = true) : (1 ≤ p ∧ p ≤ 60) ∧ ∀ i, i < xs.length → 0 ≤ (xs.getD i pl0).1 ∧ (xs.getD i pl0).1 ≤ p - 1 := by
  rw [validR, Bool.and_eq_true, Bool.and_eq_true, Bool.and_eq_true, List.all_eq_true] at h
  refine ⟨inI_iff.1 h.1.1.1, fun i hi => ?_⟩
  have := h.1.2 _ (getD_mem' (d := pl0) hi)
  simp only [okPl, Bool.and_eq_true] at this
  exact inI_iff.1 this.1
def loF (k : Int) (xs : List Pl) : Nat → List Pl
  | 0 => []
  | i + 1 => if (xs.getD i pl0).1 < k then loF k xs i ++ [xs.getD i pl0] else loF k xs i
def hiF (k : Int) (xs : List Pl) : Nat → List Pl
  | 0 => []
  | i + 1 => if (xs.getD i pl0).1 < k then hiF k xs i else hiF k xs i ++ [((xs.getD i pl0).1 - k, (xs.getD i pl0).2)]
theorem lohi_len (k : Int) (xs : List Pl) : ∀ i, (loF k xs i).length + (hiF k xs i).length = i
  | 0 => rfl
  | i + 1 => by
    have := lohi_len k xs i
    rw [loF, hiF]
    split <;> simp <;> omega
def splR (ok : Bool) (p k : Int) (xs : List Pl) : Int × List Pl × Int × List Pl × Int := if !ok then (0, [], 0, [], 1) else if !inI k 1 (p - 1) then (0, [], 0, [], 2) else (k, loF k xs xs.length, p - k, hiF k xs xs.length, 0)
theorem splR_len (ok : Bool) (p k : Int) (xs : List Pl) : (splR ok p k xs).2.1.length ≤ xs.length ∧ (splR ok p k xs).2.2.2.1.length ≤ xs.length := by
  have := lohi_len k xs xs.length
  unfold splR
  (repeat' split) <;> simp <;> omega

noncomputable abbrev s_S_SplitRack : Spec ((Int × List Pl) × Int) where
  args := fun x => [rackD x.1, .val (.int .i64 x.2)]
  pre := fun x => (isI16 x.1.1 ∧ ∀ b ∈ x.1.2, isPl b) ∧ x.1.2.length ≤ 1048576
  new := fun x => [⟨47, 9, false, pls (splR (okR x.1.1 x.1.2) x.1.1 x.2 x.1.2).2.1⟩, ⟨47, 9, false, pls (splR (okR x.1.1 x.1.2) x.1.1 x.2 x.1.2).2.2.2.1⟩]
  res := fun x => .tup [.agg [.val (.int .i16 (splR (okR x.1.1 x.1.2) x.1.1 x.2 x.1.2).1), .own 0], .agg [.val (.int .i16 (splR (okR x.1.1 x.1.2) x.1.1 x.2 x.1.2).2.2.1), .own 1], .val (.int .i64 (splR (okR x.1.1 x.1.2) x.1.1 x.2 x.1.2).2.2.2.2)]

set_option maxRecDepth 20000 in
set_option maxHeartbeats 8000000 in
theorem ok_S_SplitRack : FnOk Pr 6 s_S_SplitRack := by
  refine fn_ok 2 0 T0_ok Go.Proofs.Try.func6 rfl (enters_of Go.Proofs.Try.func6 rfl rfl) (fun _ => rfl) (fun _ => rfl) (fun _ => rfl) ?_
  rintro ⟨⟨p, xs⟩, k⟩ ⟨⟨hpp, hv⟩, hl⟩ C hP hN hm hG
  change awp C _ _ ⟨[(0, .agg [.val (.int .i16 p), .sl 9 (pls xs)]), (1, .val (.int .i64 k))], [], 0⟩
  simp only at hv hl
  refine awp_seq ?_
  refine r1 T0_ok hP hm hN ?_
  refine g1 ?_
  refine g1 ?_
  refine g1 ?_
  refine g1 ?_
  refine awp_seq ?_
  refine awp_seq ?_
  refine r1 T0_ok hP hm hN ?_
  refine gc1 ?_ (call1 ok_S_l05Ok (p, xs) [] (hpre := by (try dsimp only); exact ⟨⟨hpp, hv⟩, hl⟩))
  refine g1 ?_
  refine awp_cond rfl (fun hc0 => ?_) (fun hc0 => ?_)
  · skip
    have hr : splR (okR p xs) p k xs = (0, [], 0, [], 1) := by rw [splR, if_pos hc0]
    refine awp_seq ?_
    refine r1 T0_ok hP hm hN ?_
    refine g1 ?_
    refine g1 ?_
    refine g1 ?_
    refine g1 ?_
    refine g1 ?_
    refine awp_weak (weak_nilO 1 0 1 47 9 rfl rfl rfl rfl) ?_
    refine awp_weak (weak_nilO 2 0 1 47 9 rfl rfl rfl rfl) ?_
    refine awp_ret ?_
    refine fin_mk [3, 4] rfl rfl ?_ (by simp only [hr]; exact objs_cons rfl rfl rfl rfl rfl (.inl rfl) (objs_cons rfl rfl rfl rfl rfl (.inl rfl) objs_nil)) (by decide)
    show D.tup [.agg [.val (.int .i16 (splR (okR p xs) p k xs).1), .own 3], .agg [.val (.int .i16 (splR (okR p xs) p k xs).2.2.1), .own 4], .val (.int .i64 (splR (okR p xs) p k xs).2.2.2.2)] = _
    rw [hr]
    rfl
  · skip
    have hok : okR p xs = true := by simpa using hc0
    obtain ⟨⟨hp1, hp2⟩, hat⟩ := validR_b (p := p) (xs := xs) (by rw [← okR_validR]; exact hok)
    refine awp_skip ?_
    refine awp_seq ?_
    refine awp_seq ?_
    refine r1 T0_ok hP hm hN ?_
    refine g1 ?_
    refine g1 ?_
    refine g1 ?_
    refine g1 ?_
    refine g1 ?_
    refine gc1 ?_ (call1 ok_S_l00In (_, _, _) [])
    refine g1 ?_
    refine awp_cond rfl (fun hc1 => ?_) (fun hc1 => ?_)
    · skip
      have hr : splR (okR p xs) p k xs = (0, [], 0, [], 2) := by rw [splR, if_neg (by rw [hc0]; simp), if_pos hc1]
      refine awp_seq ?_
      refine r1 T0_ok hP hm hN ?_
      refine g1 ?_
      refine g1 ?_
      refine g1 ?_
      refine g1 ?_
      refine g1 ?_
      refine awp_weak (weak_nilO 1 0 1 47 9 rfl rfl rfl rfl) ?_
      refine awp_weak (weak_nilO 2 0 1 47 9 rfl rfl rfl rfl) ?_
      refine awp_ret ?_
      refine fin_mk [3, 4] rfl rfl ?_ (by simp only [hr]; exact objs_cons rfl rfl rfl rfl rfl (.inl rfl) (objs_cons rfl rfl rfl rfl rfl (.inl rfl) objs_nil)) (by decide)
      show D.tup [.agg [.val (.int .i16 (splR (okR p xs) p k xs).1), .own 3], .agg [.val (.int .i16 (splR (okR p xs) p k xs).2.2.1), .own 4], .val (.int .i64 (splR (okR p xs) p k xs).2.2.2.2)] = _
      rw [hr]
      rfl
    · skip
      have hr : splR (okR p xs) p k xs = (k, loF k xs xs.length, p - k, hiF k xs xs.length, 0) := by rw [splR, if_neg (by rw [hc0]; simp), if_neg (by rw [hc1]; simp)]
      obtain ⟨hk1, hk2⟩ : 1 ≤ k ∧ k ≤ p - 1 := inI_iff.1 (by simpa using hc1)
      refine awp_skip ?_
      refine awp_seq ?_
      refine r1 T0_ok hP hm hN ?_
      refine g1 ?_
      refine g1 ?_
      refine g1 ?_
      refine g1 ?_
      refine g1 ?_
      refine awp_seq ?_
      refine r1 T0_ok hP hm hN ?_
      refine g1 ?_
      refine g1 ?_
      refine g1 ?_
      refine g1 ?_
      refine g1 ?_
      refine g1 ?_
      refine g1 ?_
      refine g1 ?_
      refine awp_seq ?_
      refine awp_seq ?_
      refine r1 T0_ok hP hm hN ?_
      refine g1 ?_
      refine awp_block ?_
      have hll := lohi_len k xs
      refine awp_loop (fun n st => ∃ i : Nat, i ≤ xs.length ∧ n = xs.length - i ∧ st = ⟨[(9, .val (.int .i64 (i : Nat))), (1, .val (.int .i64 k)), (2, .ptr 0 0 0), (4, .ptr 1 0 0), (5, .ptr 2 0 0), (7, .ptr 3 0 0), (8, .ptr 4 0 0)], [(6, ⟨47, 9, false, pls (hiF k xs i)⟩), (5, ⟨47, 9, false, pls (loF k xs i)⟩), (4, ⟨29, 2, true, [[.val (.int .i16 (p - k)), .own 6]]⟩), (3, ⟨29, 2, true, [[.val (.int .i16 k), .own 5]]⟩), (2, ⟨29, 2, true, [[.val (.int .i16 0), .nil]]⟩), (1, ⟨29, 2, true, [[.val (.int .i16 0), .nil]]⟩), (0, ⟨29, 2, true, [[.val (.int .i16 p), .sl 9 (pls xs)]]⟩)], 7⟩) (xs.length) ⟨_, (by exact Weak.trans (weak_nilO 3 0 1 47 9 rfl rfl rfl rfl) (Weak.trans (weak_nilO 4 0 1 47 9 rfl rfl rfl rfl) (weak_sl (sub_cons rfl (sub_cons rfl (sub_cons rfl (sub_cons rfl (sub_cons rfl (sub_cons rfl (sub_cons rfl (sub_nil))))))))))), 0, by omega, rfl, rfl⟩ ?_
      rintro n st ⟨i, hii, hni, rfl⟩
      have hli := hll i
      refine awp_seq ?_
      refine awp_seq ?_
      refine r1 T0_ok hP hm hN ?_
      refine g1 ?_
      refine g1 ?_
      refine g1 ?_
      refine g1 ?_
      refine g1 ?_
      refine awp_cond rfl (fun hc2 => ?_) (fun hc2 => ?_)
      · skip
        have hlti : i < xs.length := by simpa using hc2
        obtain ⟨hx1, hx2⟩ := hat i hlti
        refine awp_skip ?_
        refine awp_seq ?_
        refine awp_block ?_
        refine awp_seq ?_
        refine r1 T0_ok hP hm hN ?_
        refine g1 ?_
        refine g1 ?_
        refine g1 ?_
        refine g1 ?_
        refine g1 ?_
        refine g1 ?_
        refine g1 ?_
        refine awp_seq ?_
        refine r1 T0_ok hP hm hN ?_
        refine g1 ?_
        refine g1 ?_
        refine g1 ?_
        refine g1 ?_
        refine g1 ?_
        refine awp_cond rfl (fun hc3 => ?_) (fun hc3 => ?_)
        · skip
          have hlt3 : (xs.getD i pl0).1 < k := by simpa using hc3
          have hlo : loF k xs (i + 1) = loF k xs i ++ [xs.getD i pl0] := by rw [loF, if_pos hlt3]
          have hhi : hiF k xs (i + 1) = hiF k xs i := by rw [hiF, if_pos hlt3]
          refine r1 T0_ok hP hm hN ?_
          refine g1 ?_
          refine g1 ?_
          refine g1 ?_
          refine g1 ?_
          refine ga1 ?_
          refine g1 ?_
          refine g1 ?_
          refine r1 T0_ok hP hm hN ?_
          refine g1 ?_
          refine g1 ?_
          refine g1 ?_
          refine ⟨xs.length - (i + 1), _, by omega, (by rw [hlo, hhi]; (try rw [pls_app]); exact Weak.trans (weak_drop 8) (Weak.trans (weak_drop 7) (Weak.trans (weak_nx (nx' := 7) (by omega) (by rfl)) (weak_sl (sub_cons rfl (sub_cons rfl (sub_cons rfl (sub_cons rfl (sub_cons rfl (sub_cons rfl (sub_cons rfl (sub_nil)))))))))))), i + 1, by omega, rfl, rfl⟩
        · skip
          have hlt3 : ¬ (xs.getD i pl0).1 < k := by simpa using hc3
          have hlo : loF k xs (i + 1) = loF k xs i := by rw [loF, if_neg hlt3]
          have hhi : hiF k xs (i + 1) = hiF k xs i ++ [((xs.getD i pl0).1 - k, (xs.getD i pl0).2)] := by rw [hiF, if_neg hlt3]
          refine r1 T0_ok hP hm hN ?_
          refine g1 ?_
          refine g1 ?_
          refine g1 ?_
          refine g1 ?_
          refine g1 ?_
          refine g1 ?_
          refine g1 ?_
          refine g1 ?_
          refine g1 ?_
          refine g1 ?_
          refine g1 ?_
          refine ga1 ?_
          refine g1 ?_
          refine g1 ?_
          refine r1 T0_ok hP hm hN ?_
          refine g1 ?_
          refine g1 ?_
          refine g1 ?_
          refine ⟨xs.length - (i + 1), _, by omega, (by rw [hlo, hhi]; (try rw [pls_app]); exact Weak.trans (weak_drop 8) (Weak.trans (weak_drop 7) (Weak.trans (weak_nx (nx' := 7) (by omega) (by rfl)) (weak_sl (sub_cons rfl (sub_cons rfl (sub_cons rfl (sub_cons rfl (sub_cons rfl (sub_cons rfl (sub_cons rfl (sub_nil)))))))))))), i + 1, by omega, rfl, rfl⟩
      · skip
        have hgei : ¬ i < xs.length := by simpa using hc2
        have heqi : i = xs.length := by omega
        rw [heqi]
        refine awp_exit ?_
        repeat refine thenA_exit ?_
        refine blockA_hit ?_
        refine awp_seq ?_
        refine awp_any hP Pr_mix _ rfl 5 rfl ?_
        refine anyS_cons T0_ok hP hm hN (by rfl) [0, 1] (by rfl) rfl ?_
        refine ⟨⟨_, rfl, rfl, ?_⟩, ?_⟩
        · skip
          refine g1 ?_
          refine anyS_cons T0_ok hP hm hN (by rfl) [1, 2] (by rfl) rfl ?_
          refine ⟨⟨_, rfl, rfl, ?_⟩, ?_⟩
          · skip
            refine g1 ?_
            refine anyS_cons T0_ok hP hm hN (by rfl) [2] (by rfl) rfl ?_
            refine ⟨⟨_, rfl, rfl, ?_⟩, trivial⟩
            refine g1 ?_
            refine anyS_cons T0_ok hP hm hN (by rfl) [3] (by rfl) rfl ?_
            refine ⟨⟨_, rfl, rfl, ?_⟩, trivial⟩
            refine g1 ?_
            refine anyS_cons T0_ok hP hm hN (by rfl) [4] (by rfl) rfl ?_
            refine ⟨⟨_, rfl, rfl, ?_⟩, trivial⟩
            refine g1 ?_
            refine anyS_done (by rfl) ?_
            refine awp_ret ?_
            refine fin_mk [5, 6] rfl rfl ?_ (by simp only [hr]; exact objs_cons rfl rfl rfl rfl rfl (.inl rfl) (objs_cons rfl rfl rfl rfl rfl (.inl rfl) objs_nil)) (by decide)
            show D.tup [.agg [.val (.int .i16 (splR (okR p xs) p k xs).1), .own 5], .agg [.val (.int .i16 (splR (okR p xs) p k xs).2.2.1), .own 6], .val (.int .i64 (splR (okR p xs) p k xs).2.2.2.2)] = _
            rw [hr]
            rfl
          refine ⟨⟨_, rfl, rfl, ?_⟩, trivial⟩
          refine g1 ?_
          refine anyS_cons T0_ok hP hm hN (by rfl) [1] (by rfl) rfl ?_
          refine ⟨⟨_, rfl, rfl, ?_⟩, trivial⟩
          refine g1 ?_
          refine anyS_cons T0_ok hP hm hN (by rfl) [3] (by rfl) rfl ?_
          refine ⟨⟨_, rfl, rfl, ?_⟩, trivial⟩
          refine g1 ?_
          refine anyS_cons T0_ok hP hm hN (by rfl) [4] (by rfl) rfl ?_
          refine ⟨⟨_, rfl, rfl, ?_⟩, trivial⟩
          refine g1 ?_
          refine anyS_done (by rfl) ?_
          refine awp_ret ?_
          refine fin_mk [5, 6] rfl rfl ?_ (by simp only [hr]; exact objs_cons rfl rfl rfl rfl rfl (.inl rfl) (objs_cons rfl rfl rfl rfl rfl (.inl rfl) objs_nil)) (by decide)
          show D.tup [.agg [.val (.int .i16 (splR (okR p xs) p k xs).1), .own 5], .agg [.val (.int .i16 (splR (okR p xs) p k xs).2.2.1), .own 6], .val (.int .i64 (splR (okR p xs) p k xs).2.2.2.2)] = _
          rw [hr]
          rfl
        refine ⟨⟨_, rfl, rfl, ?_⟩, trivial⟩
        refine g1 ?_
        refine anyS_cons T0_ok hP hm hN (by rfl) [0] (by rfl) rfl ?_
        refine ⟨⟨_, rfl, rfl, ?_⟩, trivial⟩
        refine g1 ?_
        refine anyS_cons T0_ok hP hm hN (by rfl) [2] (by rfl) rfl ?_
        refine ⟨⟨_, rfl, rfl, ?_⟩, trivial⟩
        refine g1 ?_
        refine anyS_cons T0_ok hP hm hN (by rfl) [3] (by rfl) rfl ?_
        refine ⟨⟨_, rfl, rfl, ?_⟩, trivial⟩
        refine g1 ?_
        refine anyS_cons T0_ok hP hm hN (by rfl) [4] (by rfl) rfl ?_
        refine ⟨⟨_, rfl, rfl, ?_⟩, trivial⟩
        refine g1 ?_
        refine anyS_done (by rfl) ?_
        refine awp_ret ?_
        refine fin_mk [5, 6] rfl rfl ?_ (by simp only [hr]; exact objs_cons rfl rfl rfl rfl rfl (.inl rfl) (objs_cons rfl rfl rfl rfl rfl (.inl rfl) objs_nil)) (by decide)
        show D.tup [.agg [.val (.int .i16 (splR (okR p xs) p k xs).1), .own 5], .agg [.val (.int .i16 (splR (okR p xs) p k xs).2.2.1), .own 6], .val (.int .i64 (splR (okR p xs) p k xs).2.2.2.2)] = _
        rw [hr]
        rfl

noncomputable abbrev s_I_SplitRack : Spec ((Int × List Pl) × Int) where
  args := fun x => [rackD x.1, .val (.int .i64 x.2)]
  pre := fun x => (∀ b ∈ x.1.2, isPl b) ∧ x.1.2.length ≤ 1048576
  new := fun x => [⟨47, 9, false, pls (splR (validR x.1.1 x.1.2) x.1.1 x.2 x.1.2).2.1⟩, ⟨47, 9, false, pls (splR (validR x.1.1 x.1.2) x.1.1 x.2 x.1.2).2.2.2.1⟩]
  res := fun x => .tup [.agg [.val (.int .i16 (splR (validR x.1.1 x.1.2) x.1.1 x.2 x.1.2).1), .own 0], .agg [.val (.int .i16 (splR (validR x.1.1 x.1.2) x.1.1 x.2 x.1.2).2.2.1), .own 1], .val (.int .i64 (splR (validR x.1.1 x.1.2) x.1.1 x.2 x.1.2).2.2.2.2)]

set_option maxRecDepth 20000 in
set_option maxHeartbeats 8000000 in
theorem ok_I_SplitRack : FnOk Pr 8 s_I_SplitRack := by
  refine fn_ok 2 0 T0_ok Go.Proofs.Try.func8 rfl (enters_of Go.Proofs.Try.func8 rfl rfl) (fun _ => rfl) (fun _ => rfl) (fun _ => rfl) ?_
  rintro ⟨⟨p, xs⟩, k⟩ ⟨hv, hl⟩ C hP hN hm hG
  change awp C _ _ ⟨[(0, .agg [.val (.int .i16 p), .sl 9 (pls xs)]), (1, .val (.int .i64 k))], [], 0⟩
  simp only at hv hl
  refine awp_seq ?_
  refine r1 T0_ok hP hm hN ?_
  refine g1 ?_
  refine g1 ?_
  refine g1 ?_
  refine g1 ?_
  refine awp_seq ?_
  refine awp_block ?_
  refine awp_seq ?_
  refine r1 T0_ok hP hm hN ?_
  refine g1 ?_
  refine gc1 ?_ (call1 ok_I_ValidRack (p, xs) [] (hpre := by (try dsimp only); exact ⟨hv, hl⟩))
  refine g1 ?_
  refine g1 ?_
  refine awp_cond rfl (fun hc0 => ?_) (fun hc0 => ?_)
  · skip
    have hr : splR (validR p xs) p k xs = (0, [], 0, [], 1) := by rw [splR, if_pos hc0]
    refine awp_seq ?_
    refine r1 T0_ok hP hm hN ?_
    refine g1 ?_
    refine g1 ?_
    refine g1 ?_
    refine g1 ?_
    refine g1 ?_
    refine awp_weak (weak_nilO 1 0 1 47 9 rfl rfl rfl rfl) ?_
    refine awp_weak (weak_nilO 2 0 1 47 9 rfl rfl rfl rfl) ?_
    refine awp_ret ?_
    refine fin_mk [3, 4] rfl rfl ?_ (by simp only [hr]; exact objs_cons rfl rfl rfl rfl rfl (.inl rfl) (objs_cons rfl rfl rfl rfl rfl (.inl rfl) objs_nil)) (by decide)
    show D.tup [.agg [.val (.int .i16 (splR (validR p xs) p k xs).1), .own 3], .agg [.val (.int .i16 (splR (validR p xs) p k xs).2.2.1), .own 4], .val (.int .i64 (splR (validR p xs) p k xs).2.2.2.2)] = _
    rw [hr]
    rfl
  · skip
    have hok : validR p xs = true := by simpa using hc0
    obtain ⟨⟨hp1, hp2⟩, hat⟩ := validR_b (p := p) (xs := xs) (by exact hok)
    refine awp_seq ?_
    refine r1 T0_ok hP hm hN ?_
    refine g1 ?_
    refine g1 ?_
    refine g1 ?_
    refine g1 ?_
    refine g1 ?_
    refine gc1 ?_ (call1 ok_I_within_int64 (_, _, _) [])
    refine g1 ?_
    refine g1 ?_
    refine awp_cond rfl (fun hc1 => ?_) (fun hc1 => ?_)
    · skip
      have hr : splR (validR p xs) p k xs = (0, [], 0, [], 2) := by rw [splR, if_neg (by rw [hc0]; simp), if_pos hc1]
      refine awp_seq ?_
      refine r1 T0_ok hP hm hN ?_
      refine g1 ?_
      refine g1 ?_
      refine g1 ?_
      refine g1 ?_
      refine g1 ?_
      refine awp_weak (weak_nilO 1 0 1 47 9 rfl rfl rfl rfl) ?_
      refine awp_weak (weak_nilO 2 0 1 47 9 rfl rfl rfl rfl) ?_
      refine awp_ret ?_
      refine fin_mk [3, 4] rfl rfl ?_ (by simp only [hr]; exact objs_cons rfl rfl rfl rfl rfl (.inl rfl) (objs_cons rfl rfl rfl rfl rfl (.inl rfl) objs_nil)) (by decide)
      show D.tup [.agg [.val (.int .i16 (splR (validR p xs) p k xs).1), .own 3], .agg [.val (.int .i16 (splR (validR p xs) p k xs).2.2.1), .own 4], .val (.int .i64 (splR (validR p xs) p k xs).2.2.2.2)] = _
      rw [hr]
      rfl
    · skip
      have hr : splR (validR p xs) p k xs = (k, loF k xs xs.length, p - k, hiF k xs xs.length, 0) := by rw [splR, if_neg (by rw [hc0]; simp), if_neg (by rw [hc1]; simp)]
      obtain ⟨hk1, hk2⟩ : 1 ≤ k ∧ k ≤ p - 1 := inI_iff.1 (by simpa using hc1)
      refine awp_skip ?_
      refine awp_seq ?_
      refine awp_join (st1 := ⟨[(8, .ptr 4 0 0), (7, .ptr 3 0 0), (1, .val (.int .i64 k)), (2, .ptr 0 0 0), (4, .ptr 1 0 0), (5, .ptr 2 0 0)], [(4, ⟨29, 2, true, [[.val (.int .i16 (p - k)), .nil]]⟩), (3, ⟨29, 2, true, [[.val (.int .i16 k), .nil]]⟩), (2, ⟨29, 2, true, [[.val (.int .i16 0), .nil]]⟩), (1, ⟨29, 2, true, [[.val (.int .i16 0), .nil]]⟩), (0, ⟨29, 2, true, [[.val (.int .i16 p), .sl 9 (pls xs)]]⟩)], 5⟩) ?_ ?_
      · skip
        refine awp_any hP Pr_mix _ rfl 13 rfl ?_
        refine anyS_float T0_ok hP hm hN (by rfl) 0 rfl rfl rfl (by rfl) (by rfl) (by rfl) ?_
        refine g1 ?_
        refine anyS_floatV T0_ok hP hm hN (by rfl) 1 rfl rfl (by rfl) (by rfl) (by first | trivial | rfl | exact ⟨rfl, rfl⟩ | exact ⟨rfl, rfl, fun _ => rfl, Nat.le_of_ble_eq_true rfl, .inl rfl⟩ | exact ⟨rfl, rfl, fun h => (nomatch h), Nat.le_of_ble_eq_true rfl, .inl rfl⟩ | exact ⟨rfl, rfl, fun _ => rfl, Nat.le_of_ble_eq_true rfl, .inr rfl⟩ | exact ⟨rfl, rfl, fun h => (nomatch h), Nat.le_of_ble_eq_true rfl, .inr rfl⟩ | omega | exact ⟨rfl, by (repeat (first | exact fm_nil | refine fm_cons ⟨rfl, rfl⟩ ?_)), Nat.le_of_ble_eq_true rfl, Nat.le_of_ble_eq_true rfl⟩ | (refine ⟨?_, ?_, ?_, ?_, ?_, ?_, ?_⟩ <;> first | omega | exact Nat.le_of_ble_eq_true rfl) | exact ⟨rfl, by omega, by (try simp only [List.length_map, List.length_set]); omega⟩ | exact ⟨rfl, by omega, by simp only [Int.toNat_natCast]; omega, by omega, Nat.le_of_ble_eq_true rfl, rfl⟩) rfl (by rfl) (by rfl) (by rfl) ?_
        refine g1 ?_
        refine anyS_floatV T0_ok hP hm hN (by rfl) 2 rfl rfl (by rfl) (by rfl) (by first | trivial | rfl | exact ⟨rfl, rfl⟩ | exact ⟨rfl, rfl, fun _ => rfl, Nat.le_of_ble_eq_true rfl, .inl rfl⟩ | exact ⟨rfl, rfl, fun h => (nomatch h), Nat.le_of_ble_eq_true rfl, .inl rfl⟩ | exact ⟨rfl, rfl, fun _ => rfl, Nat.le_of_ble_eq_true rfl, .inr rfl⟩ | exact ⟨rfl, rfl, fun h => (nomatch h), Nat.le_of_ble_eq_true rfl, .inr rfl⟩ | omega | exact ⟨rfl, by (repeat (first | exact fm_nil | refine fm_cons ⟨rfl, rfl⟩ ?_)), Nat.le_of_ble_eq_true rfl, Nat.le_of_ble_eq_true rfl⟩ | (refine ⟨?_, ?_, ?_, ?_, ?_, ?_, ?_⟩ <;> first | omega | exact Nat.le_of_ble_eq_true rfl) | exact ⟨rfl, by omega, by (try simp only [List.length_map, List.length_set]); omega⟩ | exact ⟨rfl, by omega, by simp only [Int.toNat_natCast]; omega, by omega, Nat.le_of_ble_eq_true rfl, rfl⟩) rfl (by rfl) (by rfl) (by rfl) ?_
        refine g1 ?_
        refine anyS_floatA T0_ok hP hm hN (by rfl) 3 rfl rfl rfl (by rfl) (by rfl) (by rfl) (by rfl) (by rfl) (by rfl) ?_
        refine g1 ?_
        refine anyS_float T0_ok hP hm hN (by rfl) 5 rfl rfl rfl (by rfl) (by rfl) (by rfl) ?_
        refine g1 ?_
        refine anyS_floatV T0_ok hP hm hN (by rfl) 6 rfl rfl (by rfl) (by rfl) (by first | trivial | rfl | exact ⟨rfl, rfl⟩ | exact ⟨rfl, rfl, fun _ => rfl, Nat.le_of_ble_eq_true rfl, .inl rfl⟩ | exact ⟨rfl, rfl, fun h => (nomatch h), Nat.le_of_ble_eq_true rfl, .inl rfl⟩ | exact ⟨rfl, rfl, fun _ => rfl, Nat.le_of_ble_eq_true rfl, .inr rfl⟩ | exact ⟨rfl, rfl, fun h => (nomatch h), Nat.le_of_ble_eq_true rfl, .inr rfl⟩ | omega | exact ⟨rfl, by (repeat (first | exact fm_nil | refine fm_cons ⟨rfl, rfl⟩ ?_)), Nat.le_of_ble_eq_true rfl, Nat.le_of_ble_eq_true rfl⟩ | (refine ⟨?_, ?_, ?_, ?_, ?_, ?_, ?_⟩ <;> first | omega | exact Nat.le_of_ble_eq_true rfl) | exact ⟨rfl, by omega, by (try simp only [List.length_map, List.length_set]); omega⟩ | exact ⟨rfl, by omega, by simp only [Int.toNat_natCast]; omega, by omega, Nat.le_of_ble_eq_true rfl, rfl⟩) rfl (by rfl) (by rfl) (by rfl) ?_
        refine g1 ?_
        refine anyS_cons T0_ok hP hm hN (by rfl) [4, 9, 10] (by rfl) rfl ?_
        refine ⟨⟨_, rfl, rfl, ?_⟩, ?_⟩
        · skip
          refine g1 ?_
          refine anyS_cons T0_ok hP hm hN (by rfl) [7, 9, 10] (by rfl) rfl ?_
          refine ⟨⟨_, rfl, rfl, ?_⟩, ?_⟩
          · skip
            refine g1 ?_
            refine anyS_cons T0_ok hP hm hN (by rfl) [8, 9, 10] (by rfl) rfl ?_
            refine ⟨⟨_, rfl, rfl, ?_⟩, ?_⟩
            · skip
              refine g1 ?_
              refine anyS_cons T0_ok hP hm hN (by rfl) [9, 10] (by rfl) rfl ?_
              refine ⟨⟨_, rfl, rfl, ?_⟩, ?_⟩
              · skip
                refine g1 ?_
                refine anyS_cons T0_ok hP hm hN (by rfl) [10] (by rfl) rfl ?_
                refine ⟨⟨_, rfl, rfl, ?_⟩, trivial⟩
                refine g1 ?_
                refine anyS_cons T0_ok hP hm hN (by rfl) [11] (by rfl) rfl ?_
                refine ⟨⟨_, rfl, rfl, ?_⟩, trivial⟩
                refine g1 ?_
                refine anyS_cons T0_ok hP hm hN (by rfl) [12] (by rfl) rfl ?_
                refine ⟨⟨_, rfl, rfl, ?_⟩, trivial⟩
                refine g1 ?_
                refine anyS_weak (st' := ⟨[(8, .ptr 4 0 0), (7, .ptr 3 0 0), (1, .val (.int .i64 k)), (2, .ptr 0 0 0), (4, .ptr 1 0 0), (5, .ptr 2 0 0)], [(4, ⟨29, 2, true, [[.val (.int .i16 (p - k)), .nil]]⟩), (3, ⟨29, 2, true, [[.val (.int .i16 k), .nil]]⟩), (2, ⟨29, 2, true, [[.val (.int .i16 0), .nil]]⟩), (1, ⟨29, 2, true, [[.val (.int .i16 0), .nil]]⟩), (0, ⟨29, 2, true, [[.val (.int .i16 p), .sl 9 (pls xs)]]⟩)], 5⟩) (by first | exact weak_sl (sub_cons rfl (sub_cons rfl (sub_cons rfl (sub_cons rfl (sub_cons rfl (sub_cons rfl sub_nil)))))) | exact Weak.trans (weak_swap 3 4 (by omega) (by omega) (by omega) (by omega)) (Weak.trans (weak_perm (subhp_cons rfl (subhp_cons rfl (subhp_cons rfl (subhp_cons rfl (subhp_cons rfl subhp_nil))))) (subhp_cons rfl (subhp_cons rfl (subhp_cons rfl (subhp_cons rfl (subhp_cons rfl subhp_nil)))))) (weak_sl (sub_cons rfl (sub_cons rfl (sub_cons rfl (sub_cons rfl (sub_cons rfl (sub_cons rfl sub_nil))))))))) ?_
                refine anyS_done (by rfl) ?_
                exact ⟨rfl, rfl⟩
              refine ⟨⟨_, rfl, rfl, ?_⟩, trivial⟩
              refine g1 ?_
              refine anyS_cons T0_ok hP hm hN (by rfl) [9] (by rfl) rfl ?_
              refine ⟨⟨_, rfl, rfl, ?_⟩, trivial⟩
              refine g1 ?_
              refine anyS_cons T0_ok hP hm hN (by rfl) [11] (by rfl) rfl ?_
              refine ⟨⟨_, rfl, rfl, ?_⟩, trivial⟩
              refine g1 ?_
              refine anyS_cons T0_ok hP hm hN (by rfl) [12] (by rfl) rfl ?_
              refine ⟨⟨_, rfl, rfl, ?_⟩, trivial⟩
              refine g1 ?_
              refine anyS_weak (st' := ⟨[(8, .ptr 4 0 0), (7, .ptr 3 0 0), (1, .val (.int .i64 k)), (2, .ptr 0 0 0), (4, .ptr 1 0 0), (5, .ptr 2 0 0)], [(4, ⟨29, 2, true, [[.val (.int .i16 (p - k)), .nil]]⟩), (3, ⟨29, 2, true, [[.val (.int .i16 k), .nil]]⟩), (2, ⟨29, 2, true, [[.val (.int .i16 0), .nil]]⟩), (1, ⟨29, 2, true, [[.val (.int .i16 0), .nil]]⟩), (0, ⟨29, 2, true, [[.val (.int .i16 p), .sl 9 (pls xs)]]⟩)], 5⟩) (by first | exact weak_sl (sub_cons rfl (sub_cons rfl (sub_cons rfl (sub_cons rfl (sub_cons rfl (sub_cons rfl sub_nil)))))) | exact Weak.trans (weak_swap 3 4 (by omega) (by omega) (by omega) (by omega)) (Weak.trans (weak_perm (subhp_cons rfl (subhp_cons rfl (subhp_cons rfl (subhp_cons rfl (subhp_cons rfl subhp_nil))))) (subhp_cons rfl (subhp_cons rfl (subhp_cons rfl (subhp_cons rfl (subhp_cons rfl subhp_nil)))))) (weak_sl (sub_cons rfl (sub_cons rfl (sub_cons rfl (sub_cons rfl (sub_cons rfl (sub_cons rfl sub_nil))))))))) ?_
              refine anyS_done (by rfl) ?_
              exact ⟨rfl, rfl⟩
            refine ⟨⟨_, rfl, rfl, ?_⟩, ?_⟩
            · skip
              refine g1 ?_
              refine anyS_cons T0_ok hP hm hN (by rfl) [8, 10] (by rfl) rfl ?_
              refine ⟨⟨_, rfl, rfl, ?_⟩, ?_⟩
              · skip
                refine g1 ?_
                refine anyS_cons T0_ok hP hm hN (by rfl) [10] (by rfl) rfl ?_
                refine ⟨⟨_, rfl, rfl, ?_⟩, trivial⟩
                refine g1 ?_
                refine anyS_cons T0_ok hP hm hN (by rfl) [11] (by rfl) rfl ?_
                refine ⟨⟨_, rfl, rfl, ?_⟩, trivial⟩
                refine g1 ?_
                refine anyS_cons T0_ok hP hm hN (by rfl) [12] (by rfl) rfl ?_
                refine ⟨⟨_, rfl, rfl, ?_⟩, trivial⟩
                refine g1 ?_
                refine anyS_weak (st' := ⟨[(8, .ptr 4 0 0), (7, .ptr 3 0 0), (1, .val (.int .i64 k)), (2, .ptr 0 0 0), (4, .ptr 1 0 0), (5, .ptr 2 0 0)], [(4, ⟨29, 2, true, [[.val (.int .i16 (p - k)), .nil]]⟩), (3, ⟨29, 2, true, [[.val (.int .i16 k), .nil]]⟩), (2, ⟨29, 2, true, [[.val (.int .i16 0), .nil]]⟩), (1, ⟨29, 2, true, [[.val (.int .i16 0), .nil]]⟩), (0, ⟨29, 2, true, [[.val (.int .i16 p), .sl 9 (pls xs)]]⟩)], 5⟩) (by first | exact weak_sl (sub_cons rfl (sub_cons rfl (sub_cons rfl (sub_cons rfl (sub_cons rfl (sub_cons rfl sub_nil)))))) | exact Weak.trans (weak_swap 3 4 (by omega) (by omega) (by omega) (by omega)) (Weak.trans (weak_perm (subhp_cons rfl (subhp_cons rfl (subhp_cons rfl (subhp_cons rfl (subhp_cons rfl subhp_nil))))) (subhp_cons rfl (subhp_cons rfl (subhp_cons rfl (subhp_cons rfl (subhp_cons rfl subhp_nil)))))) (weak_sl (sub_cons rfl (sub_cons rfl (sub_cons rfl (sub_cons rfl (sub_cons rfl (sub_cons rfl sub_nil))))))))) ?_
                refine anyS_done (by rfl) ?_
                exact ⟨rfl, rfl⟩
              refine ⟨⟨_, rfl, rfl, ?_⟩, trivial⟩
              refine g1 ?_
              refine anyS_cons T0_ok hP hm hN (by rfl) [8, 11] (by rfl) rfl ?_
              refine ⟨⟨_, rfl, rfl, ?_⟩, ?_⟩
              · skip
                refine g1 ?_
                refine anyS_cons T0_ok hP hm hN (by rfl) [11] (by rfl) rfl ?_
                refine ⟨⟨_, rfl, rfl, ?_⟩, trivial⟩
                refine g1 ?_
                refine anyS_cons T0_ok hP hm hN (by rfl) [12] (by rfl) rfl ?_
                refine ⟨⟨_, rfl, rfl, ?_⟩, trivial⟩
                refine g1 ?_
                refine anyS_weak (st' := ⟨[(8, .ptr 4 0 0), (7, .ptr 3 0 0), (1, .val (.int .i64 k)), (2, .ptr 0 0 0), (4, .ptr 1 0 0), (5, .ptr 2 0 0)], [(4, ⟨29, 2, true, [[.val (.int .i16 (p - k)), .nil]]⟩), (3, ⟨29, 2, true, [[.val (.int .i16 k), .nil]]⟩), (2, ⟨29, 2, true, [[.val (.int .i16 0), .nil]]⟩), (1, ⟨29, 2, true, [[.val (.int .i16 0), .nil]]⟩), (0, ⟨29, 2, true, [[.val (.int .i16 p), .sl 9 (pls xs)]]⟩)], 5⟩) (by first | exact weak_sl (sub_cons rfl (sub_cons rfl (sub_cons rfl (sub_cons rfl (sub_cons rfl (sub_cons rfl sub_nil)))))) | exact Weak.trans (weak_swap 3 4 (by omega) (by omega) (by omega) (by omega)) (Weak.trans (weak_perm (subhp_cons rfl (subhp_cons rfl (subhp_cons rfl (subhp_cons rfl (subhp_cons rfl subhp_nil))))) (subhp_cons rfl (subhp_cons rfl (subhp_cons rfl (subhp_cons rfl (subhp_cons rfl subhp_nil)))))) (weak_sl (sub_cons rfl (sub_cons rfl (sub_cons rfl (sub_cons rfl (sub_cons rfl (sub_cons rfl sub_nil))))))))) ?_
                refine anyS_done (by rfl) ?_
                exact ⟨rfl, rfl⟩
              refine ⟨⟨_, rfl, rfl, ?_⟩, trivial⟩
              refine g1 ?_
              refine anyS_cons T0_ok hP hm hN (by rfl) [8] (by rfl) rfl ?_
              refine ⟨⟨_, rfl, rfl, ?_⟩, trivial⟩
              refine g1 ?_
              refine anyS_cons T0_ok hP hm hN (by rfl) [12] (by rfl) rfl ?_
              refine ⟨⟨_, rfl, rfl, ?_⟩, trivial⟩
              refine g1 ?_
              refine anyS_weak (st' := ⟨[(8, .ptr 4 0 0), (7, .ptr 3 0 0), (1, .val (.int .i64 k)), (2, .ptr 0 0 0), (4, .ptr 1 0 0), (5, .ptr 2 0 0)], [(4, ⟨29, 2, true, [[.val (.int .i16 (p - k)), .nil]]⟩), (3, ⟨29, 2, true, [[.val (.int .i16 k), .nil]]⟩), (2, ⟨29, 2, true, [[.val (.int .i16 0), .nil]]⟩), (1, ⟨29, 2, true, [[.val (.int .i16 0), .nil]]⟩), (0, ⟨29, 2, true, [[.val (.int .i16 p), .sl 9 (pls xs)]]⟩)], 5⟩) (by first | exact weak_sl (sub_cons rfl (sub_cons rfl (sub_cons rfl (sub_cons rfl (sub_cons rfl (sub_cons rfl sub_nil)))))) | exact Weak.trans (weak_swap 3 4 (by omega) (by omega) (by omega) (by omega)) (Weak.trans (weak_perm (subhp_cons rfl (subhp_cons rfl (subhp_cons rfl (subhp_cons rfl (subhp_cons rfl subhp_nil))))) (subhp_cons rfl (subhp_cons rfl (subhp_cons rfl (subhp_cons rfl (subhp_cons rfl subhp_nil)))))) (weak_sl (sub_cons rfl (sub_cons rfl (sub_cons rfl (sub_cons rfl (sub_cons rfl (sub_cons rfl sub_nil))))))))) ?_
              refine anyS_done (by rfl) ?_
              exact ⟨rfl, rfl⟩
            refine ⟨⟨_, rfl, rfl, ?_⟩, trivial⟩
            refine g1 ?_
            refine anyS_cons T0_ok hP hm hN (by rfl) [8, 9] (by rfl) rfl ?_
            refine ⟨⟨_, rfl, rfl, ?_⟩, ?_⟩
            · skip
              refine g1 ?_
              refine anyS_cons T0_ok hP hm hN (by rfl) [9] (by rfl) rfl ?_
              refine ⟨⟨_, rfl, rfl, ?_⟩, trivial⟩
              refine g1 ?_
              refine anyS_cons T0_ok hP hm hN (by rfl) [11] (by rfl) rfl ?_
              refine ⟨⟨_, rfl, rfl, ?_⟩, trivial⟩
              refine g1 ?_
              refine anyS_cons T0_ok hP hm hN (by rfl) [12] (by rfl) rfl ?_
              refine ⟨⟨_, rfl, rfl, ?_⟩, trivial⟩
              refine g1 ?_
              refine anyS_weak (st' := ⟨[(8, .ptr 4 0 0), (7, .ptr 3 0 0), (1, .val (.int .i64 k)), (2, .ptr 0 0 0), (4, .ptr 1 0 0), (5, .ptr 2 0 0)], [(4, ⟨29, 2, true, [[.val (.int .i16 (p - k)), .nil]]⟩), (3, ⟨29, 2, true, [[.val (.int .i16 k), .nil]]⟩), (2, ⟨29, 2, true, [[.val (.int .i16 0), .nil]]⟩), (1, ⟨29, 2, true, [[.val (.int .i16 0), .nil]]⟩), (0, ⟨29, 2, true, [[.val (.int .i16 p), .sl 9 (pls xs)]]⟩)], 5⟩) (by first | exact weak_sl (sub_cons rfl (sub_cons rfl (sub_cons rfl (sub_cons rfl (sub_cons rfl (sub_cons rfl sub_nil)))))) | exact Weak.trans (weak_swap 3 4 (by omega) (by omega) (by omega) (by omega)) (Weak.trans (weak_perm (subhp_cons rfl (subhp_cons rfl (subhp_cons rfl (subhp_cons rfl (subhp_cons rfl subhp_nil))))) (subhp_cons rfl (subhp_cons rfl (subhp_cons rfl (subhp_cons rfl (subhp_cons rfl subhp_nil)))))) (weak_sl (sub_cons rfl (sub_cons rfl (sub_cons rfl (sub_cons rfl (sub_cons rfl (sub_cons rfl sub_nil))))))))) ?_
              refine anyS_done (by rfl) ?_
              exact ⟨rfl, rfl⟩
            refine ⟨⟨_, rfl, rfl, ?_⟩, trivial⟩
            refine g1 ?_
            refine anyS_cons T0_ok hP hm hN (by rfl) [8, 11] (by rfl) rfl ?_
            refine ⟨⟨_, rfl, rfl, ?_⟩, ?_⟩
            · skip
              refine g1 ?_
              refine anyS_cons T0_ok hP hm hN (by rfl) [11] (by rfl) rfl ?_
              refine ⟨⟨_, rfl, rfl, ?_⟩, trivial⟩
              refine g1 ?_
              refine anyS_cons T0_ok hP hm hN (by rfl) [12] (by rfl) rfl ?_
              refine ⟨⟨_, rfl, rfl, ?_⟩, trivial⟩
              refine g1 ?_
              refine anyS_weak (st' := ⟨[(8, .ptr 4 0 0), (7, .ptr 3 0 0), (1, .val (.int .i64 k)), (2, .ptr 0 0 0), (4, .ptr 1 0 0), (5, .ptr 2 0 0)], [(4, ⟨29, 2, true, [[.val (.int .i16 (p - k)), .nil]]⟩), (3, ⟨29, 2, true, [[.val (.int .i16 k), .nil]]⟩), (2, ⟨29, 2, true, [[.val (.int .i16 0), .nil]]⟩), (1, ⟨29, 2, true, [[.val (.int .i16 0), .nil]]⟩), (0, ⟨29, 2, true, [[.val (.int .i16 p), .sl 9 (pls xs)]]⟩)], 5⟩) (by first | exact weak_sl (sub_cons rfl (sub_cons rfl (sub_cons rfl (sub_cons rfl (sub_cons rfl (sub_cons rfl sub_nil)))))) | exact Weak.trans (weak_swap 3 4 (by omega) (by omega) (by omega) (by omega)) (Weak.trans (weak_perm (subhp_cons rfl (subhp_cons rfl (subhp_cons rfl (subhp_cons rfl (subhp_cons rfl subhp_nil))))) (subhp_cons rfl (subhp_cons rfl (subhp_cons rfl (subhp_cons rfl (subhp_cons rfl subhp_nil)))))) (weak_sl (sub_cons rfl (sub_cons rfl (sub_cons rfl (sub_cons rfl (sub_cons rfl (sub_cons rfl sub_nil))))))))) ?_
              refine anyS_done (by rfl) ?_
              exact ⟨rfl, rfl⟩
            refine ⟨⟨_, rfl, rfl, ?_⟩, trivial⟩
            refine g1 ?_
            refine anyS_cons T0_ok hP hm hN (by rfl) [8] (by rfl) rfl ?_
            refine ⟨⟨_, rfl, rfl, ?_⟩, trivial⟩
            refine g1 ?_
            refine anyS_cons T0_ok hP hm hN (by rfl) [12] (by rfl) rfl ?_
            refine ⟨⟨_, rfl, rfl, ?_⟩, trivial⟩
            refine g1 ?_
            refine anyS_weak (st' := ⟨[(8, .ptr 4 0 0), (7, .ptr 3 0 0), (1, .val (.int .i64 k)), (2, .ptr 0 0 0), (4, .ptr 1 0 0), (5, .ptr 2 0 0)], [(4, ⟨29, 2, true, [[.val (.int .i16 (p - k)), .nil]]⟩), (3, ⟨29, 2, true, [[.val (.int .i16 k), .nil]]⟩), (2, ⟨29, 2, true, [[.val (.int .i16 0), .nil]]⟩), (1, ⟨29, 2, true, [[.val (.int .i16 0), .nil]]⟩), (0, ⟨29, 2, true, [[.val (.int .i16 p), .sl 9 (pls xs)]]⟩)], 5⟩) (by first | exact weak_sl (sub_cons rfl (sub_cons rfl (sub_cons rfl (sub_cons rfl (sub_cons rfl (sub_cons rfl sub_nil)))))) | exact Weak.trans (weak_swap 3 4 (by omega) (by omega) (by omega) (by omega)) (Weak.trans (weak_perm (subhp_cons rfl (subhp_cons rfl (subhp_cons rfl (subhp_cons rfl (subhp_cons rfl subhp_nil))))) (subhp_cons rfl (subhp_cons rfl (subhp_cons rfl (subhp_cons rfl (subhp_cons rfl subhp_nil)))))) (weak_sl (sub_cons rfl (sub_cons rfl (sub_cons rfl (sub_cons rfl (sub_cons rfl (sub_cons rfl sub_nil))))))))) ?_
            refine anyS_done (by rfl) ?_
            exact ⟨rfl, rfl⟩
          refine ⟨⟨_, rfl, rfl, ?_⟩, ?_⟩
          · skip
            refine g1 ?_
            refine anyS_cons T0_ok hP hm hN (by rfl) [7, 10] (by rfl) rfl ?_
            refine ⟨⟨_, rfl, rfl, ?_⟩, ?_⟩
            · skip
              refine g1 ?_
              refine anyS_cons T0_ok hP hm hN (by rfl) [8, 10] (by rfl) rfl ?_
              refine ⟨⟨_, rfl, rfl, ?_⟩, ?_⟩
              · skip
                refine g1 ?_
                refine anyS_cons T0_ok hP hm hN (by rfl) [10] (by rfl) rfl ?_
                refine ⟨⟨_, rfl, rfl, ?_⟩, trivial⟩
                refine g1 ?_
                refine anyS_cons T0_ok hP hm hN (by rfl) [11] (by rfl) rfl ?_
                refine ⟨⟨_, rfl, rfl, ?_⟩, trivial⟩
                refine g1 ?_
                refine anyS_cons T0_ok hP hm hN (by rfl) [12] (by rfl) rfl ?_
                refine ⟨⟨_, rfl, rfl, ?_⟩, trivial⟩
                refine g1 ?_
                refine anyS_weak (st' := ⟨[(8, .ptr 4 0 0), (7, .ptr 3 0 0), (1, .val (.int .i64 k)), (2, .ptr 0 0 0), (4, .ptr 1 0 0), (5, .ptr 2 0 0)], [(4, ⟨29, 2, true, [[.val (.int .i16 (p - k)), .nil]]⟩), (3, ⟨29, 2, true, [[.val (.int .i16 k), .nil]]⟩), (2, ⟨29, 2, true, [[.val (.int .i16 0), .nil]]⟩), (1, ⟨29, 2, true, [[.val (.int .i16 0), .nil]]⟩), (0, ⟨29, 2, true, [[.val (.int .i16 p), .sl 9 (pls xs)]]⟩)], 5⟩) (by first | exact weak_sl (sub_cons rfl (sub_cons rfl (sub_cons rfl (sub_cons rfl (sub_cons rfl (sub_cons rfl sub_nil)))))) | exact Weak.trans (weak_swap 3 4 (by omega) (by omega) (by omega) (by omega)) (Weak.trans (weak_perm (subhp_cons rfl (subhp_cons rfl (subhp_cons rfl (subhp_cons rfl (subhp_cons rfl subhp_nil))))) (subhp_cons rfl (subhp_cons rfl (subhp_cons rfl (subhp_cons rfl (subhp_cons rfl subhp_nil)))))) (weak_sl (sub_cons rfl (sub_cons rfl (sub_cons rfl (sub_cons rfl (sub_cons rfl (sub_cons rfl sub_nil))))))))) ?_
                refine anyS_done (by rfl) ?_
                exact ⟨rfl, rfl⟩
              refine ⟨⟨_, rfl, rfl, ?_⟩, trivial⟩
              refine g1 ?_
              refine anyS_cons T0_ok hP hm hN (by rfl) [8, 11] (by rfl) rfl ?_
              refine ⟨⟨_, rfl, rfl, ?_⟩, ?_⟩
              · skip
                refine g1 ?_
                refine anyS_cons T0_ok hP hm hN (by rfl) [11] (by rfl) rfl ?_
                refine ⟨⟨_, rfl, rfl, ?_⟩, trivial⟩
                refine g1 ?_
                refine anyS_cons T0_ok hP hm hN (by rfl) [12] (by rfl) rfl ?_
                refine ⟨⟨_, rfl, rfl, ?_⟩, trivial⟩
                refine g1 ?_
                refine anyS_weak (st' := ⟨[(8, .ptr 4 0 0), (7, .ptr 3 0 0), (1, .val (.int .i64 k)), (2, .ptr 0 0 0), (4, .ptr 1 0 0), (5, .ptr 2 0 0)], [(4, ⟨29, 2, true, [[.val (.int .i16 (p - k)), .nil]]⟩), (3, ⟨29, 2, true, [[.val (.int .i16 k), .nil]]⟩), (2, ⟨29, 2, true, [[.val (.int .i16 0), .nil]]⟩), (1, ⟨29, 2, true, [[.val (.int .i16 0), .nil]]⟩), (0, ⟨29, 2, true, [[.val (.int .i16 p), .sl 9 (pls xs)]]⟩)], 5⟩) (by first | exact weak_sl (sub_cons rfl (sub_cons rfl (sub_cons rfl (sub_cons rfl (sub_cons rfl (sub_cons rfl sub_nil)))))) | exact Weak.trans (weak_swap 3 4 (by omega) (by omega) (by omega) (by omega)) (Weak.trans (weak_perm (subhp_cons rfl (subhp_cons rfl (subhp_cons rfl (subhp_cons rfl (subhp_cons rfl subhp_nil))))) (subhp_cons rfl (subhp_cons rfl (subhp_cons rfl (subhp_cons rfl (subhp_cons rfl subhp_nil)))))) (weak_sl (sub_cons rfl (sub_cons rfl (sub_cons rfl (sub_cons rfl (sub_cons rfl (sub_cons rfl sub_nil))))))))) ?_
                refine anyS_done (by rfl) ?_
                exact ⟨rfl, rfl⟩
              refine ⟨⟨_, rfl, rfl, ?_⟩, trivial⟩
              refine g1 ?_
              refine anyS_cons T0_ok hP hm hN (by rfl) [8] (by rfl) rfl ?_
              refine ⟨⟨_, rfl, rfl, ?_⟩, trivial⟩
              refine g1 ?_
              refine anyS_cons T0_ok hP hm hN (by rfl) [12] (by rfl) rfl ?_
              refine ⟨⟨_, rfl, rfl, ?_⟩, trivial⟩
              refine g1 ?_
              refine anyS_weak (st' := ⟨[(8, .ptr 4 0 0), (7, .ptr 3 0 0), (1, .val (.int .i64 k)), (2, .ptr 0 0 0), (4, .ptr 1 0 0), (5, .ptr 2 0 0)], [(4, ⟨29, 2, true, [[.val (.int .i16 (p - k)), .nil]]⟩), (3, ⟨29, 2, true, [[.val (.int .i16 k), .nil]]⟩), (2, ⟨29, 2, true, [[.val (.int .i16 0), .nil]]⟩), (1, ⟨29, 2, true, [[.val (.int .i16 0), .nil]]⟩), (0, ⟨29, 2, true, [[.val (.int .i16 p), .sl 9 (pls xs)]]⟩)], 5⟩) (by first | exact weak_sl (sub_cons rfl (sub_cons rfl (sub_cons rfl (sub_cons rfl (sub_cons rfl (sub_cons rfl sub_nil)))))) | exact Weak.trans (weak_swap 3 4 (by omega) (by omega) (by omega) (by omega)) (Weak.trans (weak_perm (subhp_cons rfl (subhp_cons rfl (subhp_cons rfl (subhp_cons rfl (subhp_cons rfl subhp_nil))))) (subhp_cons rfl (subhp_cons rfl (subhp_cons rfl (subhp_cons rfl (subhp_cons rfl subhp_nil)))))) (weak_sl (sub_cons rfl (sub_cons rfl (sub_cons rfl (sub_cons rfl (sub_cons rfl (sub_cons rfl sub_nil))))))))) ?_
              refine anyS_done (by rfl) ?_
              exact ⟨rfl, rfl⟩
            refine ⟨⟨_, rfl, rfl, ?_⟩, trivial⟩
            refine g1 ?_
            refine anyS_cons T0_ok hP hm hN (by rfl) [7, 11] (by rfl) rfl ?_
            refine ⟨⟨_, rfl, rfl, ?_⟩, ?_⟩
            · skip
              refine g1 ?_
              refine anyS_cons T0_ok hP hm hN (by rfl) [8, 11] (by rfl) rfl ?_
              refine ⟨⟨_, rfl, rfl, ?_⟩, ?_⟩
              · skip
                refine g1 ?_
                refine anyS_cons T0_ok hP hm hN (by rfl) [11] (by rfl) rfl ?_
                refine ⟨⟨_, rfl, rfl, ?_⟩, trivial⟩
                refine g1 ?_
                refine anyS_cons T0_ok hP hm hN (by rfl) [12] (by rfl) rfl ?_
                refine ⟨⟨_, rfl, rfl, ?_⟩, trivial⟩
                refine g1 ?_
                refine anyS_weak (st' := ⟨[(8, .ptr 4 0 0), (7, .ptr 3 0 0), (1, .val (.int .i64 k)), (2, .ptr 0 0 0), (4, .ptr 1 0 0), (5, .ptr 2 0 0)], [(4, ⟨29, 2, true, [[.val (.int .i16 (p - k)), .nil]]⟩), (3, ⟨29, 2, true, [[.val (.int .i16 k), .nil]]⟩), (2, ⟨29, 2, true, [[.val (.int .i16 0), .nil]]⟩), (1, ⟨29, 2, true, [[.val (.int .i16 0), .nil]]⟩), (0, ⟨29, 2, true, [[.val (.int .i16 p), .sl 9 (pls xs)]]⟩)], 5⟩) (by first | exact weak_sl (sub_cons rfl (sub_cons rfl (sub_cons rfl (sub_cons rfl (sub_cons rfl (sub_cons rfl sub_nil)))))) | exact Weak.trans (weak_swap 3 4 (by omega) (by omega) (by omega) (by omega)) (Weak.trans (weak_perm (subhp_cons rfl (subhp_cons rfl (subhp_cons rfl (subhp_cons rfl (subhp_cons rfl subhp_nil))))) (subhp_cons rfl (subhp_cons rfl (subhp_cons rfl (subhp_cons rfl (subhp_cons rfl subhp_nil)))))) (weak_sl (sub_cons rfl (sub_cons rfl (sub_cons rfl (sub_cons rfl (sub_cons rfl (sub_cons rfl sub_nil))))))))) ?_
                refine anyS_done (by rfl) ?_
                exact ⟨rfl, rfl⟩
              refine ⟨⟨_, rfl, rfl, ?_⟩, trivial⟩
              refine g1 ?_
              refine anyS_cons T0_ok hP hm hN (by rfl) [8] (by rfl) rfl ?_
              refine ⟨⟨_, rfl, rfl, ?_⟩, trivial⟩
              refine g1 ?_
              refine anyS_cons T0_ok hP hm hN (by rfl) [12] (by rfl) rfl ?_
              refine ⟨⟨_, rfl, rfl, ?_⟩, trivial⟩
              refine g1 ?_
              refine anyS_weak (st' := ⟨[(8, .ptr 4 0 0), (7, .ptr 3 0 0), (1, .val (.int .i64 k)), (2, .ptr 0 0 0), (4, .ptr 1 0 0), (5, .ptr 2 0 0)], [(4, ⟨29, 2, true, [[.val (.int .i16 (p - k)), .nil]]⟩), (3, ⟨29, 2, true, [[.val (.int .i16 k), .nil]]⟩), (2, ⟨29, 2, true, [[.val (.int .i16 0), .nil]]⟩), (1, ⟨29, 2, true, [[.val (.int .i16 0), .nil]]⟩), (0, ⟨29, 2, true, [[.val (.int .i16 p), .sl 9 (pls xs)]]⟩)], 5⟩) (by first | exact weak_sl (sub_cons rfl (sub_cons rfl (sub_cons rfl (sub_cons rfl (sub_cons rfl (sub_cons rfl sub_nil)))))) | exact Weak.trans (weak_swap 3 4 (by omega) (by omega) (by omega) (by omega)) (Weak.trans (weak_perm (subhp_cons rfl (subhp_cons rfl (subhp_cons rfl (subhp_cons rfl (subhp_cons rfl subhp_nil))))) (subhp_cons rfl (subhp_cons rfl (subhp_cons rfl (subhp_cons rfl (subhp_cons rfl subhp_nil)))))) (weak_sl (sub_cons rfl (sub_cons rfl (sub_cons rfl (sub_cons rfl (sub_cons rfl (sub_cons rfl sub_nil))))))))) ?_
              refine anyS_done (by rfl) ?_
              exact ⟨rfl, rfl⟩
            refine ⟨⟨_, rfl, rfl, ?_⟩, trivial⟩
            refine g1 ?_
            refine anyS_cons T0_ok hP hm hN (by rfl) [7] (by rfl) rfl ?_
            refine ⟨⟨_, rfl, rfl, ?_⟩, trivial⟩
            refine g1 ?_
            refine anyS_cons T0_ok hP hm hN (by rfl) [8] (by rfl) rfl ?_
            refine ⟨⟨_, rfl, rfl, ?_⟩, trivial⟩
            refine g1 ?_
            refine anyS_cons T0_ok hP hm hN (by rfl) [12] (by rfl) rfl ?_
            refine ⟨⟨_, rfl, rfl, ?_⟩, trivial⟩
            refine g1 ?_
            refine anyS_weak (st' := ⟨[(8, .ptr 4 0 0), (7, .ptr 3 0 0), (1, .val (.int .i64 k)), (2, .ptr 0 0 0), (4, .ptr 1 0 0), (5, .ptr 2 0 0)], [(4, ⟨29, 2, true, [[.val (.int .i16 (p - k)), .nil]]⟩), (3, ⟨29, 2, true, [[.val (.int .i16 k), .nil]]⟩), (2, ⟨29, 2, true, [[.val (.int .i16 0), .nil]]⟩), (1, ⟨29, 2, true, [[.val (.int .i16 0), .nil]]⟩), (0, ⟨29, 2, true, [[.val (.int .i16 p), .sl 9 (pls xs)]]⟩)], 5⟩) (by first | exact weak_sl (sub_cons rfl (sub_cons rfl (sub_cons rfl (sub_cons rfl (sub_cons rfl (sub_cons rfl sub_nil)))))) | exact Weak.trans (weak_swap 3 4 (by omega) (by omega) (by omega) (by omega)) (Weak.trans (weak_perm (subhp_cons rfl (subhp_cons rfl (subhp_cons rfl (subhp_cons rfl (subhp_cons rfl subhp_nil))))) (subhp_cons rfl (subhp_cons rfl (subhp_cons rfl (subhp_cons rfl (subhp_cons rfl subhp_nil)))))) (weak_sl (sub_cons rfl (sub_cons rfl (sub_cons rfl (sub_cons rfl (sub_cons rfl (sub_cons rfl sub_nil))))))))) ?_
            refine anyS_done (by rfl) ?_
            exact ⟨rfl, rfl⟩
          refine ⟨⟨_, rfl, rfl, ?_⟩, trivial⟩
          refine g1 ?_
          refine anyS_cons T0_ok hP hm hN (by rfl) [7, 9] (by rfl) rfl ?_
          refine ⟨⟨_, rfl, rfl, ?_⟩, ?_⟩
          · skip
            refine g1 ?_
            refine anyS_cons T0_ok hP hm hN (by rfl) [8, 9] (by rfl) rfl ?_
            refine ⟨⟨_, rfl, rfl, ?_⟩, ?_⟩
            · skip
              refine g1 ?_
              refine anyS_cons T0_ok hP hm hN (by rfl) [9] (by rfl) rfl ?_
              refine ⟨⟨_, rfl, rfl, ?_⟩, trivial⟩
              refine g1 ?_
              refine anyS_cons T0_ok hP hm hN (by rfl) [11] (by rfl) rfl ?_
              refine ⟨⟨_, rfl, rfl, ?_⟩, trivial⟩
              refine g1 ?_
              refine anyS_cons T0_ok hP hm hN (by rfl) [12] (by rfl) rfl ?_
              refine ⟨⟨_, rfl, rfl, ?_⟩, trivial⟩
              refine g1 ?_
              refine anyS_weak (st' := ⟨[(8, .ptr 4 0 0), (7, .ptr 3 0 0), (1, .val (.int .i64 k)), (2, .ptr 0 0 0), (4, .ptr 1 0 0), (5, .ptr 2 0 0)], [(4, ⟨29, 2, true, [[.val (.int .i16 (p - k)), .nil]]⟩), (3, ⟨29, 2, true, [[.val (.int .i16 k), .nil]]⟩), (2, ⟨29, 2, true, [[.val (.int .i16 0), .nil]]⟩), (1, ⟨29, 2, true, [[.val (.int .i16 0), .nil]]⟩), (0, ⟨29, 2, true, [[.val (.int .i16 p), .sl 9 (pls xs)]]⟩)], 5⟩) (by first | exact weak_sl (sub_cons rfl (sub_cons rfl (sub_cons rfl (sub_cons rfl (sub_cons rfl (sub_cons rfl sub_nil)))))) | exact Weak.trans (weak_swap 3 4 (by omega) (by omega) (by omega) (by omega)) (Weak.trans (weak_perm (subhp_cons rfl (subhp_cons rfl (subhp_cons rfl (subhp_cons rfl (subhp_cons rfl subhp_nil))))) (subhp_cons rfl (subhp_cons rfl (subhp_cons rfl (subhp_cons rfl (subhp_cons rfl subhp_nil)))))) (weak_sl (sub_cons rfl (sub_cons rfl (sub_cons rfl (sub_cons rfl (sub_cons rfl (sub_cons rfl sub_nil))))))))) ?_
              refine anyS_done (by rfl) ?_
              exact ⟨rfl, rfl⟩
            refine ⟨⟨_, rfl, rfl, ?_⟩, trivial⟩
            refine g1 ?_
            refine anyS_cons T0_ok hP hm hN (by rfl) [8, 11] (by rfl) rfl ?_
            refine ⟨⟨_, rfl, rfl, ?_⟩, ?_⟩
            · skip
              refine g1 ?_
              refine anyS_cons T0_ok hP hm hN (by rfl) [11] (by rfl) rfl ?_
              refine ⟨⟨_, rfl, rfl, ?_⟩, trivial⟩
              refine g1 ?_
              refine anyS_cons T0_ok hP hm hN (by rfl) [12] (by rfl) rfl ?_
              refine ⟨⟨_, rfl, rfl, ?_⟩, trivial⟩
              refine g1 ?_
              refine anyS_weak (st' := ⟨[(8, .ptr 4 0 0), (7, .ptr 3 0 0), (1, .val (.int .i64 k)), (2, .ptr 0 0 0), (4, .ptr 1 0 0), (5, .ptr 2 0 0)], [(4, ⟨29, 2, true, [[.val (.int .i16 (p - k)), .nil]]⟩), (3, ⟨29, 2, true, [[.val (.int .i16 k), .nil]]⟩), (2, ⟨29, 2, true, [[.val (.int .i16 0), .nil]]⟩), (1, ⟨29, 2, true, [[.val (.int .i16 0), .nil]]⟩), (0, ⟨29, 2, true, [[.val (.int .i16 p), .sl 9 (pls xs)]]⟩)], 5⟩) (by first | exact weak_sl (sub_cons rfl (sub_cons rfl (sub_cons rfl (sub_cons rfl (sub_cons rfl (sub_cons rfl sub_nil)))))) | exact Weak.trans (weak_swap 3 4 (by omega) (by omega) (by omega) (by omega)) (Weak.trans (weak_perm (subhp_cons rfl (subhp_cons rfl (subhp_cons rfl (subhp_cons rfl (subhp_cons rfl subhp_nil))))) (subhp_cons rfl (subhp_cons rfl (subhp_cons rfl (subhp_cons rfl (subhp_cons rfl subhp_nil)))))) (weak_sl (sub_cons rfl (sub_cons rfl (sub_cons rfl (sub_cons rfl (sub_cons rfl (sub_cons rfl sub_nil))))))))) ?_
              refine anyS_done (by rfl) ?_
              exact ⟨rfl, rfl⟩
            refine ⟨⟨_, rfl, rfl, ?_⟩, trivial⟩
            refine g1 ?_
            refine anyS_cons T0_ok hP hm hN (by rfl) [8] (by rfl) rfl ?_
            refine ⟨⟨_, rfl, rfl, ?_⟩, trivial⟩
            refine g1 ?_
            refine anyS_cons T0_ok hP hm hN (by rfl) [12] (by rfl) rfl ?_
            refine ⟨⟨_, rfl, rfl, ?_⟩, trivial⟩
            refine g1 ?_
            refine anyS_weak (st' := ⟨[(8, .ptr 4 0 0), (7, .ptr 3 0 0), (1, .val (.int .i64 k)), (2, .ptr 0 0 0), (4, .ptr 1 0 0), (5, .ptr 2 0 0)], [(4, ⟨29, 2, true, [[.val (.int .i16 (p - k)), .nil]]⟩), (3, ⟨29, 2, true, [[.val (.int .i16 k), .nil]]⟩), (2, ⟨29, 2, true, [[.val (.int .i16 0), .nil]]⟩), (1, ⟨29, 2, true, [[.val (.int .i16 0), .nil]]⟩), (0, ⟨29, 2, true, [[.val (.int .i16 p), .sl 9 (pls xs)]]⟩)], 5⟩) (by first | exact weak_sl (sub_cons rfl (sub_cons rfl (sub_cons rfl (sub_cons rfl (sub_cons rfl (sub_cons rfl sub_nil)))))) | exact Weak.trans (weak_swap 3 4 (by omega) (by omega) (by omega) (by omega)) (Weak.trans (weak_perm (subhp_cons rfl (subhp_cons rfl (subhp_cons rfl (subhp_cons rfl (subhp_cons rfl subhp_nil))))) (subhp_cons rfl (subhp_cons rfl (subhp_cons rfl (subhp_cons rfl (subhp_cons rfl subhp_nil)))))) (weak_sl (sub_cons rfl (sub_cons rfl (sub_cons rfl (sub_cons rfl (sub_cons rfl (sub_cons rfl sub_nil))))))))) ?_
            refine anyS_done (by rfl) ?_
            exact ⟨rfl, rfl⟩
          refine ⟨⟨_, rfl, rfl, ?_⟩, trivial⟩
          refine g1 ?_
          refine anyS_cons T0_ok hP hm hN (by rfl) [7, 11] (by rfl) rfl ?_
          refine ⟨⟨_, rfl, rfl, ?_⟩, ?_⟩
          · skip
            refine g1 ?_
            refine anyS_cons T0_ok hP hm hN (by rfl) [8, 11] (by rfl) rfl ?_
            refine ⟨⟨_, rfl, rfl, ?_⟩, ?_⟩
            · skip
              refine g1 ?_
              refine anyS_cons T0_ok hP hm hN (by rfl) [11] (by rfl) rfl ?_
              refine ⟨⟨_, rfl, rfl, ?_⟩, trivial⟩
              refine g1 ?_
              refine anyS_cons T0_ok hP hm hN (by rfl) [12] (by rfl) rfl ?_
              refine ⟨⟨_, rfl, rfl, ?_⟩, trivial⟩
              refine g1 ?_
              refine anyS_weak (st' := ⟨[(8, .ptr 4 0 0), (7, .ptr 3 0 0), (1, .val (.int .i64 k)), (2, .ptr 0 0 0), (4, .ptr 1 0 0), (5, .ptr 2 0 0)], [(4, ⟨29, 2, true, [[.val (.int .i16 (p - k)), .nil]]⟩), (3, ⟨29, 2, true, [[.val (.int .i16 k), .nil]]⟩), (2, ⟨29, 2, true, [[.val (.int .i16 0), .nil]]⟩), (1, ⟨29, 2, true, [[.val (.int .i16 0), .nil]]⟩), (0, ⟨29, 2, true, [[.val (.int .i16 p), .sl 9 (pls xs)]]⟩)], 5⟩) (by first | exact weak_sl (sub_cons rfl (sub_cons rfl (sub_cons rfl (sub_cons rfl (sub_cons rfl (sub_cons rfl sub_nil)))))) | exact Weak.trans (weak_swap 3 4 (by omega) (by omega) (by omega) (by omega)) (Weak.trans (weak_perm (subhp_cons rfl (subhp_cons rfl (subhp_cons rfl (subhp_cons rfl (subhp_cons rfl subhp_nil))))) (subhp_cons rfl (subhp_cons rfl (subhp_cons rfl (subhp_cons rfl (subhp_cons rfl subhp_nil)))))) (weak_sl (sub_cons rfl (sub_cons rfl (sub_cons rfl (sub_cons rfl (sub_cons rfl (sub_cons rfl sub_nil))))))))) ?_
              refine anyS_done (by rfl) ?_
              exact ⟨rfl, rfl⟩
            refine ⟨⟨_, rfl, rfl, ?_⟩, trivial⟩
            refine g1 ?_
            refine anyS_cons T0_ok hP hm hN (by rfl) [8] (by rfl) rfl ?_
            refine ⟨⟨_, rfl, rfl, ?_⟩, trivial⟩
            refine g1 ?_
            refine anyS_cons T0_ok hP hm hN (by rfl) [12] (by rfl) rfl ?_
            refine ⟨⟨_, rfl, rfl, ?_⟩, trivial⟩
            refine g1 ?_
            refine anyS_weak (st' := ⟨[(8, .ptr 4 0 0), (7, .ptr 3 0 0), (1, .val (.int .i64 k)), (2, .ptr 0 0 0), (4, .ptr 1 0 0), (5, .ptr 2 0 0)], [(4, ⟨29, 2, true, [[.val (.int .i16 (p - k)), .nil]]⟩), (3, ⟨29, 2, true, [[.val (.int .i16 k), .nil]]⟩), (2, ⟨29, 2, true, [[.val (.int .i16 0), .nil]]⟩), (1, ⟨29, 2, true, [[.val (.int .i16 0), .nil]]⟩), (0, ⟨29, 2, true, [[.val (.int .i16 p), .sl 9 (pls xs)]]⟩)], 5⟩) (by first | exact weak_sl (sub_cons rfl (sub_cons rfl (sub_cons rfl (sub_cons rfl (sub_cons rfl (sub_cons rfl sub_nil)))))) | exact Weak.trans (weak_swap 3 4 (by omega) (by omega) (by omega) (by omega)) (Weak.trans (weak_perm (subhp_cons rfl (subhp_cons rfl (subhp_cons rfl (subhp_cons rfl (subhp_cons rfl subhp_nil))))) (subhp_cons rfl (subhp_cons rfl (subhp_cons rfl (subhp_cons rfl (subhp_cons rfl subhp_nil)))))) (weak_sl (sub_cons rfl (sub_cons rfl (sub_cons rfl (sub_cons rfl (sub_cons rfl (sub_cons rfl sub_nil))))))))) ?_
            refine anyS_done (by rfl) ?_
            exact ⟨rfl, rfl⟩
          refine ⟨⟨_, rfl, rfl, ?_⟩, trivial⟩
          refine g1 ?_
          refine anyS_cons T0_ok hP hm hN (by rfl) [7] (by rfl) rfl ?_
          refine ⟨⟨_, rfl, rfl, ?_⟩, trivial⟩
          refine g1 ?_
          refine anyS_cons T0_ok hP hm hN (by rfl) [8] (by rfl) rfl ?_
          refine ⟨⟨_, rfl, rfl, ?_⟩, trivial⟩
          refine g1 ?_
          refine anyS_cons T0_ok hP hm hN (by rfl) [12] (by rfl) rfl ?_
          refine ⟨⟨_, rfl, rfl, ?_⟩, trivial⟩
          refine g1 ?_
          refine anyS_weak (st' := ⟨[(8, .ptr 4 0 0), (7, .ptr 3 0 0), (1, .val (.int .i64 k)), (2, .ptr 0 0 0), (4, .ptr 1 0 0), (5, .ptr 2 0 0)], [(4, ⟨29, 2, true, [[.val (.int .i16 (p - k)), .nil]]⟩), (3, ⟨29, 2, true, [[.val (.int .i16 k), .nil]]⟩), (2, ⟨29, 2, true, [[.val (.int .i16 0), .nil]]⟩), (1, ⟨29, 2, true, [[.val (.int .i16 0), .nil]]⟩), (0, ⟨29, 2, true, [[.val (.int .i16 p), .sl 9 (pls xs)]]⟩)], 5⟩) (by first | exact weak_sl (sub_cons rfl (sub_cons rfl (sub_cons rfl (sub_cons rfl (sub_cons rfl (sub_cons rfl sub_nil)))))) | exact Weak.trans (weak_swap 3 4 (by omega) (by omega) (by omega) (by omega)) (Weak.trans (weak_perm (subhp_cons rfl (subhp_cons rfl (subhp_cons rfl (subhp_cons rfl (subhp_cons rfl subhp_nil))))) (subhp_cons rfl (subhp_cons rfl (subhp_cons rfl (subhp_cons rfl (subhp_cons rfl subhp_nil)))))) (weak_sl (sub_cons rfl (sub_cons rfl (sub_cons rfl (sub_cons rfl (sub_cons rfl (sub_cons rfl sub_nil))))))))) ?_
          refine anyS_done (by rfl) ?_
          exact ⟨rfl, rfl⟩
        refine ⟨⟨_, rfl, rfl, ?_⟩, ?_⟩
        · skip
          refine g1 ?_
          refine anyS_cons T0_ok hP hm hN (by rfl) [4, 10] (by rfl) rfl ?_
          refine ⟨⟨_, rfl, rfl, ?_⟩, ?_⟩
          · skip
            refine g1 ?_
            refine anyS_cons T0_ok hP hm hN (by rfl) [7, 10] (by rfl) rfl ?_
            refine ⟨⟨_, rfl, rfl, ?_⟩, ?_⟩
            · skip
              refine g1 ?_
              refine anyS_cons T0_ok hP hm hN (by rfl) [8, 10] (by rfl) rfl ?_
              refine ⟨⟨_, rfl, rfl, ?_⟩, ?_⟩
              · skip
                refine g1 ?_
                refine anyS_cons T0_ok hP hm hN (by rfl) [10] (by rfl) rfl ?_
                refine ⟨⟨_, rfl, rfl, ?_⟩, trivial⟩
                refine g1 ?_
                refine anyS_cons T0_ok hP hm hN (by rfl) [11] (by rfl) rfl ?_
                refine ⟨⟨_, rfl, rfl, ?_⟩, trivial⟩
                refine g1 ?_
                refine anyS_cons T0_ok hP hm hN (by rfl) [12] (by rfl) rfl ?_
                refine ⟨⟨_, rfl, rfl, ?_⟩, trivial⟩
                refine g1 ?_
                refine anyS_weak (st' := ⟨[(8, .ptr 4 0 0), (7, .ptr 3 0 0), (1, .val (.int .i64 k)), (2, .ptr 0 0 0), (4, .ptr 1 0 0), (5, .ptr 2 0 0)], [(4, ⟨29, 2, true, [[.val (.int .i16 (p - k)), .nil]]⟩), (3, ⟨29, 2, true, [[.val (.int .i16 k), .nil]]⟩), (2, ⟨29, 2, true, [[.val (.int .i16 0), .nil]]⟩), (1, ⟨29, 2, true, [[.val (.int .i16 0), .nil]]⟩), (0, ⟨29, 2, true, [[.val (.int .i16 p), .sl 9 (pls xs)]]⟩)], 5⟩) (by first | exact weak_sl (sub_cons rfl (sub_cons rfl (sub_cons rfl (sub_cons rfl (sub_cons rfl (sub_cons rfl sub_nil)))))) | exact Weak.trans (weak_swap 3 4 (by omega) (by omega) (by omega) (by omega)) (Weak.trans (weak_perm (subhp_cons rfl (subhp_cons rfl (subhp_cons rfl (subhp_cons rfl (subhp_cons rfl subhp_nil))))) (subhp_cons rfl (subhp_cons rfl (subhp_cons rfl (subhp_cons rfl (subhp_cons rfl subhp_nil)))))) (weak_sl (sub_cons rfl (sub_cons rfl (sub_cons rfl (sub_cons rfl (sub_cons rfl (sub_cons rfl sub_nil))))))))) ?_
                refine anyS_done (by rfl) ?_
                exact ⟨rfl, rfl⟩
              refine ⟨⟨_, rfl, rfl, ?_⟩, trivial⟩
              refine g1 ?_
              refine anyS_cons T0_ok hP hm hN (by rfl) [8, 11] (by rfl) rfl ?_
              refine ⟨⟨_, rfl, rfl, ?_⟩, ?_⟩
              · skip
                refine g1 ?_
                refine anyS_cons T0_ok hP hm hN (by rfl) [11] (by rfl) rfl ?_
                refine ⟨⟨_, rfl, rfl, ?_⟩, trivial⟩
                refine g1 ?_
                refine anyS_cons T0_ok hP hm hN (by rfl) [12] (by rfl) rfl ?_
                refine ⟨⟨_, rfl, rfl, ?_⟩, trivial⟩
                refine g1 ?_
                refine anyS_weak (st' := ⟨[(8, .ptr 4 0 0), (7, .ptr 3 0 0), (1, .val (.int .i64 k)), (2, .ptr 0 0 0), (4, .ptr 1 0 0), (5, .ptr 2 0 0)], [(4, ⟨29, 2, true, [[.val (.int .i16 (p - k)), .nil]]⟩), (3, ⟨29, 2, true, [[.val (.int .i16 k), .nil]]⟩), (2, ⟨29, 2, true, [[.val (.int .i16 0), .nil]]⟩), (1, ⟨29, 2, true, [[.val (.int .i16 0), .nil]]⟩), (0, ⟨29, 2, true, [[.val (.int .i16 p), .sl 9 (pls xs)]]⟩)], 5⟩) (by first | exact weak_sl (sub_cons rfl (sub_cons rfl (sub_cons rfl (sub_cons rfl (sub_cons rfl (sub_cons rfl sub_nil)))))) | exact Weak.trans (weak_swap 3 4 (by omega) (by omega) (by omega) (by omega)) (Weak.trans (weak_perm (subhp_cons rfl (subhp_cons rfl (subhp_cons rfl (subhp_cons rfl (subhp_cons rfl subhp_nil))))) (subhp_cons rfl (subhp_cons rfl (subhp_cons rfl (subhp_cons rfl (subhp_cons rfl subhp_nil)))))) (weak_sl (sub_cons rfl (sub_cons rfl (sub_cons rfl (sub_cons rfl (sub_cons rfl (sub_cons rfl sub_nil))))))))) ?_
                refine anyS_done (by rfl) ?_
                exact ⟨rfl, rfl⟩
              refine ⟨⟨_, rfl, rfl, ?_⟩, trivial⟩
              refine g1 ?_
              refine anyS_cons T0_ok hP hm hN (by rfl) [8] (by rfl) rfl ?_
              refine ⟨⟨_, rfl, rfl, ?_⟩, trivial⟩
              refine g1 ?_
              refine anyS_cons T0_ok hP hm hN (by rfl) [12] (by rfl) rfl ?_
              refine ⟨⟨_, rfl, rfl, ?_⟩, trivial⟩
              refine g1 ?_
              refine anyS_weak (st' := ⟨[(8, .ptr 4 0 0), (7, .ptr 3 0 0), (1, .val (.int .i64 k)), (2, .ptr 0 0 0), (4, .ptr 1 0 0), (5, .ptr 2 0 0)], [(4, ⟨29, 2, true, [[.val (.int .i16 (p - k)), .nil]]⟩), (3, ⟨29, 2, true, [[.val (.int .i16 k), .nil]]⟩), (2, ⟨29, 2, true, [[.val (.int .i16 0), .nil]]⟩), (1, ⟨29, 2, true, [[.val (.int .i16 0), .nil]]⟩), (0, ⟨29, 2, true, [[.val (.int .i16 p), .sl 9 (pls xs)]]⟩)], 5⟩) (by first | exact weak_sl (sub_cons rfl (sub_cons rfl (sub_cons rfl (sub_cons rfl (sub_cons rfl (sub_cons rfl sub_nil)))))) | exact Weak.trans (weak_swap 3 4 (by omega) (by omega) (by omega) (by omega)) (Weak.trans (weak_perm (subhp_cons rfl (subhp_cons rfl (subhp_cons rfl (subhp_cons rfl (subhp_cons rfl subhp_nil))))) (subhp_cons rfl (subhp_cons rfl (subhp_cons rfl (subhp_cons rfl (subhp_cons rfl subhp_nil)))))) (weak_sl (sub_cons rfl (sub_cons rfl (sub_cons rfl (sub_cons rfl (sub_cons rfl (sub_cons rfl sub_nil))))))))) ?_
              refine anyS_done (by rfl) ?_
              exact ⟨rfl, rfl⟩
            refine ⟨⟨_, rfl, rfl, ?_⟩, trivial⟩
            refine g1 ?_
            refine anyS_cons T0_ok hP hm hN (by rfl) [7, 11] (by rfl) rfl ?_
            refine ⟨⟨_, rfl, rfl, ?_⟩, ?_⟩
            · skip
              refine g1 ?_
              refine anyS_cons T0_ok hP hm hN (by rfl) [8, 11] (by rfl) rfl ?_
              refine ⟨⟨_, rfl, rfl, ?_⟩, ?_⟩
              · skip
                refine g1 ?_
                refine anyS_cons T0_ok hP hm hN (by rfl) [11] (by rfl) rfl ?_
                refine ⟨⟨_, rfl, rfl, ?_⟩, trivial⟩
                refine g1 ?_
                refine anyS_cons T0_ok hP hm hN (by rfl) [12] (by rfl) rfl ?_
                refine ⟨⟨_, rfl, rfl, ?_⟩, trivial⟩
                refine g1 ?_
                refine anyS_weak (st' := ⟨[(8, .ptr 4 0 0), (7, .ptr 3 0 0), (1, .val (.int .i64 k)), (2, .ptr 0 0 0), (4, .ptr 1 0 0), (5, .ptr 2 0 0)], [(4, ⟨29, 2, true, [[.val (.int .i16 (p - k)), .nil]]⟩), (3, ⟨29, 2, true, [[.val (.int .i16 k), .nil]]⟩), (2, ⟨29, 2, true, [[.val (.int .i16 0), .nil]]⟩), (1, ⟨29, 2, true, [[.val (.int .i16 0), .nil]]⟩), (0, ⟨29, 2, true, [[.val (.int .i16 p), .sl 9 (pls xs)]]⟩)], 5⟩) (by first | exact weak_sl (sub_cons rfl (sub_cons rfl (sub_cons rfl (sub_cons rfl (sub_cons rfl (sub_cons rfl sub_nil)))))) | exact Weak.trans (weak_swap 3 4 (by omega) (by omega) (by omega) (by omega)) (Weak.trans (weak_perm (subhp_cons rfl (subhp_cons rfl (subhp_cons rfl (subhp_cons rfl (subhp_cons rfl subhp_nil))))) (subhp_cons rfl (subhp_cons rfl (subhp_cons rfl (subhp_cons rfl (subhp_cons rfl subhp_nil)))))) (weak_sl (sub_cons rfl (sub_cons rfl (sub_cons rfl (sub_cons rfl (sub_cons rfl (sub_cons rfl sub_nil))))))))) ?_
                refine anyS_done (by rfl) ?_
                exact ⟨rfl, rfl⟩
              refine ⟨⟨_, rfl, rfl, ?_⟩, trivial⟩
              refine g1 ?_
              refine anyS_cons T0_ok hP hm hN (by rfl) [8] (by rfl) rfl ?_
              refine ⟨⟨_, rfl, rfl, ?_⟩, trivial⟩
              refine g1 ?_
              refine anyS_cons T0_ok hP hm hN (by rfl) [12] (by rfl) rfl ?_
              refine ⟨⟨_, rfl, rfl, ?_⟩, trivial⟩
              refine g1 ?_
              refine anyS_weak (st' := ⟨[(8, .ptr 4 0 0), (7, .ptr 3 0 0), (1, .val (.int .i64 k)), (2, .ptr 0 0 0), (4, .ptr 1 0 0), (5, .ptr 2 0 0)], [(4, ⟨29, 2, true, [[.val (.int .i16 (p - k)), .nil]]⟩), (3, ⟨29, 2, true, [[.val (.int .i16 k), .nil]]⟩), (2, ⟨29, 2, true, [[.val (.int .i16 0), .nil]]⟩), (1, ⟨29, 2, true, [[.val (.int .i16 0), .nil]]⟩), (0, ⟨29, 2, true, [[.val (.int .i16 p), .sl 9 (pls xs)]]⟩)], 5⟩) (by first | exact weak_sl (sub_cons rfl (sub_cons rfl (sub_cons rfl (sub_cons rfl (sub_cons rfl (sub_cons rfl sub_nil)))))) | exact Weak.trans (weak_swap 3 4 (by omega) (by omega) (by omega) (by omega)) (Weak.trans (weak_perm (subhp_cons rfl (subhp_cons rfl (subhp_cons rfl (subhp_cons rfl (subhp_cons rfl subhp_nil))))) (subhp_cons rfl (subhp_cons rfl (subhp_cons rfl (subhp_cons rfl (subhp_cons rfl subhp_nil)))))) (weak_sl (sub_cons rfl (sub_cons rfl (sub_cons rfl (sub_cons rfl (sub_cons rfl (sub_cons rfl sub_nil))))))))) ?_
              refine anyS_done (by rfl) ?_
              exact ⟨rfl, rfl⟩
            refine ⟨⟨_, rfl, rfl, ?_⟩, trivial⟩
            refine g1 ?_
            refine anyS_cons T0_ok hP hm hN (by rfl) [7] (by rfl) rfl ?_
            refine ⟨⟨_, rfl, rfl, ?_⟩, trivial⟩
            refine g1 ?_
            refine anyS_cons T0_ok hP hm hN (by rfl) [8] (by rfl) rfl ?_
            refine ⟨⟨_, rfl, rfl, ?_⟩, trivial⟩
            refine g1 ?_
            refine anyS_cons T0_ok hP hm hN (by rfl) [12] (by rfl) rfl ?_
            refine ⟨⟨_, rfl, rfl, ?_⟩, trivial⟩
            refine g1 ?_
            refine anyS_weak (st' := ⟨[(8, .ptr 4 0 0), (7, .ptr 3 0 0), (1, .val (.int .i64 k)), (2, .ptr 0 0 0), (4, .ptr 1 0 0), (5, .ptr 2 0 0)], [(4, ⟨29, 2, true, [[.val (.int .i16 (p - k)), .nil]]⟩), (3, ⟨29, 2, true, [[.val (.int .i16 k), .nil]]⟩), (2, ⟨29, 2, true, [[.val (.int .i16 0), .nil]]⟩), (1, ⟨29, 2, true, [[.val (.int .i16 0), .nil]]⟩), (0, ⟨29, 2, true, [[.val (.int .i16 p), .sl 9 (pls xs)]]⟩)], 5⟩) (by first | exact weak_sl (sub_cons rfl (sub_cons rfl (sub_cons rfl (sub_cons rfl (sub_cons rfl (sub_cons rfl sub_nil)))))) | exact Weak.trans (weak_swap 3 4 (by omega) (by omega) (by omega) (by omega)) (Weak.trans (weak_perm (subhp_cons rfl (subhp_cons rfl (subhp_cons rfl (subhp_cons rfl (subhp_cons rfl subhp_nil))))) (subhp_cons rfl (subhp_cons rfl (subhp_cons rfl (subhp_cons rfl (subhp_cons rfl subhp_nil)))))) (weak_sl (sub_cons rfl (sub_cons rfl (sub_cons rfl (sub_cons rfl (sub_cons rfl (sub_cons rfl sub_nil))))))))) ?_
            refine anyS_done (by rfl) ?_
            exact ⟨rfl, rfl⟩
          refine ⟨⟨_, rfl, rfl, ?_⟩, trivial⟩
          refine g1 ?_
          refine anyS_cons T0_ok hP hm hN (by rfl) [4, 11] (by rfl) rfl ?_
          refine ⟨⟨_, rfl, rfl, ?_⟩, ?_⟩
          · skip
            refine g1 ?_
            refine anyS_cons T0_ok hP hm hN (by rfl) [7, 11] (by rfl) rfl ?_
            refine ⟨⟨_, rfl, rfl, ?_⟩, ?_⟩
            · skip
              refine g1 ?_
              refine anyS_cons T0_ok hP hm hN (by rfl) [8, 11] (by rfl) rfl ?_
              refine ⟨⟨_, rfl, rfl, ?_⟩, ?_⟩
              · skip
                refine g1 ?_
                refine anyS_cons T0_ok hP hm hN (by rfl) [11] (by rfl) rfl ?_
                refine ⟨⟨_, rfl, rfl, ?_⟩, trivial⟩
                refine g1 ?_
                refine anyS_cons T0_ok hP hm hN (by rfl) [12] (by rfl) rfl ?_
                refine ⟨⟨_, rfl, rfl, ?_⟩, trivial⟩
                refine g1 ?_
                refine anyS_weak (st' := ⟨[(8, .ptr 4 0 0), (7, .ptr 3 0 0), (1, .val (.int .i64 k)), (2, .ptr 0 0 0), (4, .ptr 1 0 0), (5, .ptr 2 0 0)], [(4, ⟨29, 2, true, [[.val (.int .i16 (p - k)), .nil]]⟩), (3, ⟨29, 2, true, [[.val (.int .i16 k), .nil]]⟩), (2, ⟨29, 2, true, [[.val (.int .i16 0), .nil]]⟩), (1, ⟨29, 2, true, [[.val (.int .i16 0), .nil]]⟩), (0, ⟨29, 2, true, [[.val (.int .i16 p), .sl 9 (pls xs)]]⟩)], 5⟩) (by first | exact weak_sl (sub_cons rfl (sub_cons rfl (sub_cons rfl (sub_cons rfl (sub_cons rfl (sub_cons rfl sub_nil)))))) | exact Weak.trans (weak_swap 3 4 (by omega) (by omega) (by omega) (by omega)) (Weak.trans (weak_perm (subhp_cons rfl (subhp_cons rfl (subhp_cons rfl (subhp_cons rfl (subhp_cons rfl subhp_nil))))) (subhp_cons rfl (subhp_cons rfl (subhp_cons rfl (subhp_cons rfl (subhp_cons rfl subhp_nil)))))) (weak_sl (sub_cons rfl (sub_cons rfl (sub_cons rfl (sub_cons rfl (sub_cons rfl (sub_cons rfl sub_nil))))))))) ?_
                refine anyS_done (by rfl) ?_
                exact ⟨rfl, rfl⟩
              refine ⟨⟨_, rfl, rfl, ?_⟩, trivial⟩
              refine g1 ?_
              refine anyS_cons T0_ok hP hm hN (by rfl) [8] (by rfl) rfl ?_
              refine ⟨⟨_, rfl, rfl, ?_⟩, trivial⟩
              refine g1 ?_
              refine anyS_cons T0_ok hP hm hN (by rfl) [12] (by rfl) rfl ?_
              refine ⟨⟨_, rfl, rfl, ?_⟩, trivial⟩
              refine g1 ?_
              refine anyS_weak (st' := ⟨[(8, .ptr 4 0 0), (7, .ptr 3 0 0), (1, .val (.int .i64 k)), (2, .ptr 0 0 0), (4, .ptr 1 0 0), (5, .ptr 2 0 0)], [(4, ⟨29, 2, true, [[.val (.int .i16 (p - k)), .nil]]⟩), (3, ⟨29, 2, true, [[.val (.int .i16 k), .nil]]⟩), (2, ⟨29, 2, true, [[.val (.int .i16 0), .nil]]⟩), (1, ⟨29, 2, true, [[.val (.int .i16 0), .nil]]⟩), (0, ⟨29, 2, true, [[.val (.int .i16 p), .sl 9 (pls xs)]]⟩)], 5⟩) (by first | exact weak_sl (sub_cons rfl (sub_cons rfl (sub_cons rfl (sub_cons rfl (sub_cons rfl (sub_cons rfl sub_nil)))))) | exact Weak.trans (weak_swap 3 4 (by omega) (by omega) (by omega) (by omega)) (Weak.trans (weak_perm (subhp_cons rfl (subhp_cons rfl (subhp_cons rfl (subhp_cons rfl (subhp_cons rfl subhp_nil))))) (subhp_cons rfl (subhp_cons rfl (subhp_cons rfl (subhp_cons rfl (subhp_cons rfl subhp_nil)))))) (weak_sl (sub_cons rfl (sub_cons rfl (sub_cons rfl (sub_cons rfl (sub_cons rfl (sub_cons rfl sub_nil))))))))) ?_
              refine anyS_done (by rfl) ?_
              exact ⟨rfl, rfl⟩
            refine ⟨⟨_, rfl, rfl, ?_⟩, trivial⟩
            refine g1 ?_
            refine anyS_cons T0_ok hP hm hN (by rfl) [7] (by rfl) rfl ?_
            refine ⟨⟨_, rfl, rfl, ?_⟩, trivial⟩
            refine g1 ?_
            refine anyS_cons T0_ok hP hm hN (by rfl) [8] (by rfl) rfl ?_
            refine ⟨⟨_, rfl, rfl, ?_⟩, trivial⟩
            refine g1 ?_
            refine anyS_cons T0_ok hP hm hN (by rfl) [12] (by rfl) rfl ?_
            refine ⟨⟨_, rfl, rfl, ?_⟩, trivial⟩
            refine g1 ?_
            refine anyS_weak (st' := ⟨[(8, .ptr 4 0 0), (7, .ptr 3 0 0), (1, .val (.int .i64 k)), (2, .ptr 0 0 0), (4, .ptr 1 0 0), (5, .ptr 2 0 0)], [(4, ⟨29, 2, true, [[.val (.int .i16 (p - k)), .nil]]⟩), (3, ⟨29, 2, true, [[.val (.int .i16 k), .nil]]⟩), (2, ⟨29, 2, true, [[.val (.int .i16 0), .nil]]⟩), (1, ⟨29, 2, true, [[.val (.int .i16 0), .nil]]⟩), (0, ⟨29, 2, true, [[.val (.int .i16 p), .sl 9 (pls xs)]]⟩)], 5⟩) (by first | exact weak_sl (sub_cons rfl (sub_cons rfl (sub_cons rfl (sub_cons rfl (sub_cons rfl (sub_cons rfl sub_nil)))))) | exact Weak.trans (weak_swap 3 4 (by omega) (by omega) (by omega) (by omega)) (Weak.trans (weak_perm (subhp_cons rfl (subhp_cons rfl (subhp_cons rfl (subhp_cons rfl (subhp_cons rfl subhp_nil))))) (subhp_cons rfl (subhp_cons rfl (subhp_cons rfl (subhp_cons rfl (subhp_cons rfl subhp_nil)))))) (weak_sl (sub_cons rfl (sub_cons rfl (sub_cons rfl (sub_cons rfl (sub_cons rfl (sub_cons rfl sub_nil))))))))) ?_
            refine anyS_done (by rfl) ?_
            exact ⟨rfl, rfl⟩
          refine ⟨⟨_, rfl, rfl, ?_⟩, trivial⟩
          refine g1 ?_
          refine anyS_cons T0_ok hP hm hN (by rfl) [4] (by rfl) rfl ?_
          refine ⟨⟨_, rfl, rfl, ?_⟩, trivial⟩
          refine g1 ?_
          refine anyS_cons T0_ok hP hm hN (by rfl) [7] (by rfl) rfl ?_
          refine ⟨⟨_, rfl, rfl, ?_⟩, trivial⟩
          refine g1 ?_
          refine anyS_cons T0_ok hP hm hN (by rfl) [8] (by rfl) rfl ?_
          refine ⟨⟨_, rfl, rfl, ?_⟩, trivial⟩
          refine g1 ?_
          refine anyS_cons T0_ok hP hm hN (by rfl) [12] (by rfl) rfl ?_
          refine ⟨⟨_, rfl, rfl, ?_⟩, trivial⟩
          refine g1 ?_
          refine anyS_weak (st' := ⟨[(8, .ptr 4 0 0), (7, .ptr 3 0 0), (1, .val (.int .i64 k)), (2, .ptr 0 0 0), (4, .ptr 1 0 0), (5, .ptr 2 0 0)], [(4, ⟨29, 2, true, [[.val (.int .i16 (p - k)), .nil]]⟩), (3, ⟨29, 2, true, [[.val (.int .i16 k), .nil]]⟩), (2, ⟨29, 2, true, [[.val (.int .i16 0), .nil]]⟩), (1, ⟨29, 2, true, [[.val (.int .i16 0), .nil]]⟩), (0, ⟨29, 2, true, [[.val (.int .i16 p), .sl 9 (pls xs)]]⟩)], 5⟩) (by first | exact weak_sl (sub_cons rfl (sub_cons rfl (sub_cons rfl (sub_cons rfl (sub_cons rfl (sub_cons rfl sub_nil)))))) | exact Weak.trans (weak_swap 3 4 (by omega) (by omega) (by omega) (by omega)) (Weak.trans (weak_perm (subhp_cons rfl (subhp_cons rfl (subhp_cons rfl (subhp_cons rfl (subhp_cons rfl subhp_nil))))) (subhp_cons rfl (subhp_cons rfl (subhp_cons rfl (subhp_cons rfl (subhp_cons rfl subhp_nil)))))) (weak_sl (sub_cons rfl (sub_cons rfl (sub_cons rfl (sub_cons rfl (sub_cons rfl (sub_cons rfl sub_nil))))))))) ?_
          refine anyS_done (by rfl) ?_
          exact ⟨rfl, rfl⟩
        refine ⟨⟨_, rfl, rfl, ?_⟩, trivial⟩
        refine g1 ?_
        refine anyS_cons T0_ok hP hm hN (by rfl) [4, 9] (by rfl) rfl ?_
        refine ⟨⟨_, rfl, rfl, ?_⟩, ?_⟩
        · skip
          refine g1 ?_
          refine anyS_cons T0_ok hP hm hN (by rfl) [7, 9] (by rfl) rfl ?_
          refine ⟨⟨_, rfl, rfl, ?_⟩, ?_⟩
          · skip
            refine g1 ?_
            refine anyS_cons T0_ok hP hm hN (by rfl) [8, 9] (by rfl) rfl ?_
            refine ⟨⟨_, rfl, rfl, ?_⟩, ?_⟩
            · skip
              refine g1 ?_
              refine anyS_cons T0_ok hP hm hN (by rfl) [9] (by rfl) rfl ?_
              refine ⟨⟨_, rfl, rfl, ?_⟩, trivial⟩
              refine g1 ?_
              refine anyS_cons T0_ok hP hm hN (by rfl) [11] (by rfl) rfl ?_
              refine ⟨⟨_, rfl, rfl, ?_⟩, trivial⟩
              refine g1 ?_
              refine anyS_cons T0_ok hP hm hN (by rfl) [12] (by rfl) rfl ?_
              refine ⟨⟨_, rfl, rfl, ?_⟩, trivial⟩
              refine g1 ?_
              refine anyS_weak (st' := ⟨[(8, .ptr 4 0 0), (7, .ptr 3 0 0), (1, .val (.int .i64 k)), (2, .ptr 0 0 0), (4, .ptr 1 0 0), (5, .ptr 2 0 0)], [(4, ⟨29, 2, true, [[.val (.int .i16 (p - k)), .nil]]⟩), (3, ⟨29, 2, true, [[.val (.int .i16 k), .nil]]⟩), (2, ⟨29, 2, true, [[.val (.int .i16 0), .nil]]⟩), (1, ⟨29, 2, true, [[.val (.int .i16 0), .nil]]⟩), (0, ⟨29, 2, true, [[.val (.int .i16 p), .sl 9 (pls xs)]]⟩)], 5⟩) (by first | exact weak_sl (sub_cons rfl (sub_cons rfl (sub_cons rfl (sub_cons rfl (sub_cons rfl (sub_cons rfl sub_nil)))))) | exact Weak.trans (weak_swap 3 4 (by omega) (by omega) (by omega) (by omega)) (Weak.trans (weak_perm (subhp_cons rfl (subhp_cons rfl (subhp_cons rfl (subhp_cons rfl (subhp_cons rfl subhp_nil))))) (subhp_cons rfl (subhp_cons rfl (subhp_cons rfl (subhp_cons rfl (subhp_cons rfl subhp_nil)))))) (weak_sl (sub_cons rfl (sub_cons rfl (sub_cons rfl (sub_cons rfl (sub_cons rfl (sub_cons rfl sub_nil))))))))) ?_
              refine anyS_done (by rfl) ?_
              exact ⟨rfl, rfl⟩
            refine ⟨⟨_, rfl, rfl, ?_⟩, trivial⟩
            refine g1 ?_
            refine anyS_cons T0_ok hP hm hN (by rfl) [8, 11] (by rfl) rfl ?_
            refine ⟨⟨_, rfl, rfl, ?_⟩, ?_⟩
            · skip
              refine g1 ?_
              refine anyS_cons T0_ok hP hm hN (by rfl) [11] (by rfl) rfl ?_
              refine ⟨⟨_, rfl, rfl, ?_⟩, trivial⟩
              refine g1 ?_
              refine anyS_cons T0_ok hP hm hN (by rfl) [12] (by rfl) rfl ?_
              refine ⟨⟨_, rfl, rfl, ?_⟩, trivial⟩
              refine g1 ?_
              refine anyS_weak (st' := ⟨[(8, .ptr 4 0 0), (7, .ptr 3 0 0), (1, .val (.int .i64 k)), (2, .ptr 0 0 0), (4, .ptr 1 0 0), (5, .ptr 2 0 0)], [(4, ⟨29, 2, true, [[.val (.int .i16 (p - k)), .nil]]⟩), (3, ⟨29, 2, true, [[.val (.int .i16 k), .nil]]⟩), (2, ⟨29, 2, true, [[.val (.int .i16 0), .nil]]⟩), (1, ⟨29, 2, true, [[.val (.int .i16 0), .nil]]⟩), (0, ⟨29, 2, true, [[.val (.int .i16 p), .sl 9 (pls xs)]]⟩)], 5⟩) (by first | exact weak_sl (sub_cons rfl (sub_cons rfl (sub_cons rfl (sub_cons rfl (sub_cons rfl (sub_cons rfl sub_nil)))))) | exact Weak.trans (weak_swap 3 4 (by omega) (by omega) (by omega) (by omega)) (Weak.trans (weak_perm (subhp_cons rfl (subhp_cons rfl (subhp_cons rfl (subhp_cons rfl (subhp_cons rfl subhp_nil))))) (subhp_cons rfl (subhp_cons rfl (subhp_cons rfl (subhp_cons rfl (subhp_cons rfl subhp_nil)))))) (weak_sl (sub_cons rfl (sub_cons rfl (sub_cons rfl (sub_cons rfl (sub_cons rfl (sub_cons rfl sub_nil))))))))) ?_
              refine anyS_done (by rfl) ?_
              exact ⟨rfl, rfl⟩
            refine ⟨⟨_, rfl, rfl, ?_⟩, trivial⟩
            refine g1 ?_
            refine anyS_cons T0_ok hP hm hN (by rfl) [8] (by rfl) rfl ?_
            refine ⟨⟨_, rfl, rfl, ?_⟩, trivial⟩
            refine g1 ?_
            refine anyS_cons T0_ok hP hm hN (by rfl) [12] (by rfl) rfl ?_
            refine ⟨⟨_, rfl, rfl, ?_⟩, trivial⟩
            refine g1 ?_
            refine anyS_weak (st' := ⟨[(8, .ptr 4 0 0), (7, .ptr 3 0 0), (1, .val (.int .i64 k)), (2, .ptr 0 0 0), (4, .ptr 1 0 0), (5, .ptr 2 0 0)], [(4, ⟨29, 2, true, [[.val (.int .i16 (p - k)), .nil]]⟩), (3, ⟨29, 2, true, [[.val (.int .i16 k), .nil]]⟩), (2, ⟨29, 2, true, [[.val (.int .i16 0), .nil]]⟩), (1, ⟨29, 2, true, [[.val (.int .i16 0), .nil]]⟩), (0, ⟨29, 2, true, [[.val (.int .i16 p), .sl 9 (pls xs)]]⟩)], 5⟩) (by first | exact weak_sl (sub_cons rfl (sub_cons rfl (sub_cons rfl (sub_cons rfl (sub_cons rfl (sub_cons rfl sub_nil)))))) | exact Weak.trans (weak_swap 3 4 (by omega) (by omega) (by omega) (by omega)) (Weak.trans (weak_perm (subhp_cons rfl (subhp_cons rfl (subhp_cons rfl (subhp_cons rfl (subhp_cons rfl subhp_nil))))) (subhp_cons rfl (subhp_cons rfl (subhp_cons rfl (subhp_cons rfl (subhp_cons rfl subhp_nil)))))) (weak_sl (sub_cons rfl (sub_cons rfl (sub_cons rfl (sub_cons rfl (sub_cons rfl (sub_cons rfl sub_nil))))))))) ?_
            refine anyS_done (by rfl) ?_
            exact ⟨rfl, rfl⟩
          refine ⟨⟨_, rfl, rfl, ?_⟩, trivial⟩
          refine g1 ?_
          refine anyS_cons T0_ok hP hm hN (by rfl) [7, 11] (by rfl) rfl ?_
          refine ⟨⟨_, rfl, rfl, ?_⟩, ?_⟩
          · skip
            refine g1 ?_
            refine anyS_cons T0_ok hP hm hN (by rfl) [8, 11] (by rfl) rfl ?_
            refine ⟨⟨_, rfl, rfl, ?_⟩, ?_⟩
            · skip
              refine g1 ?_
              refine anyS_cons T0_ok hP hm hN (by rfl) [11] (by rfl) rfl ?_
              refine ⟨⟨_, rfl, rfl, ?_⟩, trivial⟩
              refine g1 ?_
              refine anyS_cons T0_ok hP hm hN (by rfl) [12] (by rfl) rfl ?_
              refine ⟨⟨_, rfl, rfl, ?_⟩, trivial⟩
              refine g1 ?_
              refine anyS_weak (st' := ⟨[(8, .ptr 4 0 0), (7, .ptr 3 0 0), (1, .val (.int .i64 k)), (2, .ptr 0 0 0), (4, .ptr 1 0 0), (5, .ptr 2 0 0)], [(4, ⟨29, 2, true, [[.val (.int .i16 (p - k)), .nil]]⟩), (3, ⟨29, 2, true, [[.val (.int .i16 k), .nil]]⟩), (2, ⟨29, 2, true, [[.val (.int .i16 0), .nil]]⟩), (1, ⟨29, 2, true, [[.val (.int .i16 0), .nil]]⟩), (0, ⟨29, 2, true, [[.val (.int .i16 p), .sl 9 (pls xs)]]⟩)], 5⟩) (by first | exact weak_sl (sub_cons rfl (sub_cons rfl (sub_cons rfl (sub_cons rfl (sub_cons rfl (sub_cons rfl sub_nil)))))) | exact Weak.trans (weak_swap 3 4 (by omega) (by omega) (by omega) (by omega)) (Weak.trans (weak_perm (subhp_cons rfl (subhp_cons rfl (subhp_cons rfl (subhp_cons rfl (subhp_cons rfl subhp_nil))))) (subhp_cons rfl (subhp_cons rfl (subhp_cons rfl (subhp_cons rfl (subhp_cons rfl subhp_nil)))))) (weak_sl (sub_cons rfl (sub_cons rfl (sub_cons rfl (sub_cons rfl (sub_cons rfl (sub_cons rfl sub_nil))))))))) ?_
              refine anyS_done (by rfl) ?_
              exact ⟨rfl, rfl⟩
            refine ⟨⟨_, rfl, rfl, ?_⟩, trivial⟩
            refine g1 ?_
            refine anyS_cons T0_ok hP hm hN (by rfl) [8] (by rfl) rfl ?_
            refine ⟨⟨_, rfl, rfl, ?_⟩, trivial⟩
            refine g1 ?_
            refine anyS_cons T0_ok hP hm hN (by rfl) [12] (by rfl) rfl ?_
            refine ⟨⟨_, rfl, rfl, ?_⟩, trivial⟩
            refine g1 ?_
            refine anyS_weak (st' := ⟨[(8, .ptr 4 0 0), (7, .ptr 3 0 0), (1, .val (.int .i64 k)), (2, .ptr 0 0 0), (4, .ptr 1 0 0), (5, .ptr 2 0 0)], [(4, ⟨29, 2, true, [[.val (.int .i16 (p - k)), .nil]]⟩), (3, ⟨29, 2, true, [[.val (.int .i16 k), .nil]]⟩), (2, ⟨29, 2, true, [[.val (.int .i16 0), .nil]]⟩), (1, ⟨29, 2, true, [[.val (.int .i16 0), .nil]]⟩), (0, ⟨29, 2, true, [[.val (.int .i16 p), .sl 9 (pls xs)]]⟩)], 5⟩) (by first | exact weak_sl (sub_cons rfl (sub_cons rfl (sub_cons rfl (sub_cons rfl (sub_cons rfl (sub_cons rfl sub_nil)))))) | exact Weak.trans (weak_swap 3 4 (by omega) (by omega) (by omega) (by omega)) (Weak.trans (weak_perm (subhp_cons rfl (subhp_cons rfl (subhp_cons rfl (subhp_cons rfl (subhp_cons rfl subhp_nil))))) (subhp_cons rfl (subhp_cons rfl (subhp_cons rfl (subhp_cons rfl (subhp_cons rfl subhp_nil)))))) (weak_sl (sub_cons rfl (sub_cons rfl (sub_cons rfl (sub_cons rfl (sub_cons rfl (sub_cons rfl sub_nil))))))))) ?_
            refine anyS_done (by rfl) ?_
            exact ⟨rfl, rfl⟩
          refine ⟨⟨_, rfl, rfl, ?_⟩, trivial⟩
          refine g1 ?_
          refine anyS_cons T0_ok hP hm hN (by rfl) [7] (by rfl) rfl ?_
          refine ⟨⟨_, rfl, rfl, ?_⟩, trivial⟩
          refine g1 ?_
          refine anyS_cons T0_ok hP hm hN (by rfl) [8] (by rfl) rfl ?_
          refine ⟨⟨_, rfl, rfl, ?_⟩, trivial⟩
          refine g1 ?_
          refine anyS_cons T0_ok hP hm hN (by rfl) [12] (by rfl) rfl ?_
          refine ⟨⟨_, rfl, rfl, ?_⟩, trivial⟩
          refine g1 ?_
          refine anyS_weak (st' := ⟨[(8, .ptr 4 0 0), (7, .ptr 3 0 0), (1, .val (.int .i64 k)), (2, .ptr 0 0 0), (4, .ptr 1 0 0), (5, .ptr 2 0 0)], [(4, ⟨29, 2, true, [[.val (.int .i16 (p - k)), .nil]]⟩), (3, ⟨29, 2, true, [[.val (.int .i16 k), .nil]]⟩), (2, ⟨29, 2, true, [[.val (.int .i16 0), .nil]]⟩), (1, ⟨29, 2, true, [[.val (.int .i16 0), .nil]]⟩), (0, ⟨29, 2, true, [[.val (.int .i16 p), .sl 9 (pls xs)]]⟩)], 5⟩) (by first | exact weak_sl (sub_cons rfl (sub_cons rfl (sub_cons rfl (sub_cons rfl (sub_cons rfl (sub_cons rfl sub_nil)))))) | exact Weak.trans (weak_swap 3 4 (by omega) (by omega) (by omega) (by omega)) (Weak.trans (weak_perm (subhp_cons rfl (subhp_cons rfl (subhp_cons rfl (subhp_cons rfl (subhp_cons rfl subhp_nil))))) (subhp_cons rfl (subhp_cons rfl (subhp_cons rfl (subhp_cons rfl (subhp_cons rfl subhp_nil)))))) (weak_sl (sub_cons rfl (sub_cons rfl (sub_cons rfl (sub_cons rfl (sub_cons rfl (sub_cons rfl sub_nil))))))))) ?_
          refine anyS_done (by rfl) ?_
          exact ⟨rfl, rfl⟩
        refine ⟨⟨_, rfl, rfl, ?_⟩, trivial⟩
        refine g1 ?_
        refine anyS_cons T0_ok hP hm hN (by rfl) [4, 11] (by rfl) rfl ?_
        refine ⟨⟨_, rfl, rfl, ?_⟩, ?_⟩
        · skip
          refine g1 ?_
          refine anyS_cons T0_ok hP hm hN (by rfl) [7, 11] (by rfl) rfl ?_
          refine ⟨⟨_, rfl, rfl, ?_⟩, ?_⟩
          · skip
            refine g1 ?_
            refine anyS_cons T0_ok hP hm hN (by rfl) [8, 11] (by rfl) rfl ?_
            refine ⟨⟨_, rfl, rfl, ?_⟩, ?_⟩
            · skip
              refine g1 ?_
              refine anyS_cons T0_ok hP hm hN (by rfl) [11] (by rfl) rfl ?_
              refine ⟨⟨_, rfl, rfl, ?_⟩, trivial⟩
              refine g1 ?_
              refine anyS_cons T0_ok hP hm hN (by rfl) [12] (by rfl) rfl ?_
              refine ⟨⟨_, rfl, rfl, ?_⟩, trivial⟩
              refine g1 ?_
              refine anyS_weak (st' := ⟨[(8, .ptr 4 0 0), (7, .ptr 3 0 0), (1, .val (.int .i64 k)), (2, .ptr 0 0 0), (4, .ptr 1 0 0), (5, .ptr 2 0 0)], [(4, ⟨29, 2, true, [[.val (.int .i16 (p - k)), .nil]]⟩), (3, ⟨29, 2, true, [[.val (.int .i16 k), .nil]]⟩), (2, ⟨29, 2, true, [[.val (.int .i16 0), .nil]]⟩), (1, ⟨29, 2, true, [[.val (.int .i16 0), .nil]]⟩), (0, ⟨29, 2, true, [[.val (.int .i16 p), .sl 9 (pls xs)]]⟩)], 5⟩) (by first | exact weak_sl (sub_cons rfl (sub_cons rfl (sub_cons rfl (sub_cons rfl (sub_cons rfl (sub_cons rfl sub_nil)))))) | exact Weak.trans (weak_swap 3 4 (by omega) (by omega) (by omega) (by omega)) (Weak.trans (weak_perm (subhp_cons rfl (subhp_cons rfl (subhp_cons rfl (subhp_cons rfl (subhp_cons rfl subhp_nil))))) (subhp_cons rfl (subhp_cons rfl (subhp_cons rfl (subhp_cons rfl (subhp_cons rfl subhp_nil)))))) (weak_sl (sub_cons rfl (sub_cons rfl (sub_cons rfl (sub_cons rfl (sub_cons rfl (sub_cons rfl sub_nil))))))))) ?_
              refine anyS_done (by rfl) ?_
              exact ⟨rfl, rfl⟩
            refine ⟨⟨_, rfl, rfl, ?_⟩, trivial⟩
            refine g1 ?_
            refine anyS_cons T0_ok hP hm hN (by rfl) [8] (by rfl) rfl ?_
            refine ⟨⟨_, rfl, rfl, ?_⟩, trivial⟩
            refine g1 ?_
            refine anyS_cons T0_ok hP hm hN (by rfl) [12] (by rfl) rfl ?_
            refine ⟨⟨_, rfl, rfl, ?_⟩, trivial⟩
            refine g1 ?_
            refine anyS_weak (st' := ⟨[(8, .ptr 4 0 0), (7, .ptr 3 0 0), (1, .val (.int .i64 k)), (2, .ptr 0 0 0), (4, .ptr 1 0 0), (5, .ptr 2 0 0)], [(4, ⟨29, 2, true, [[.val (.int .i16 (p - k)), .nil]]⟩), (3, ⟨29, 2, true, [[.val (.int .i16 k), .nil]]⟩), (2, ⟨29, 2, true, [[.val (.int .i16 0), .nil]]⟩), (1, ⟨29, 2, true, [[.val (.int .i16 0), .nil]]⟩), (0, ⟨29, 2, true, [[.val (.int .i16 p), .sl 9 (pls xs)]]⟩)], 5⟩) (by first | exact weak_sl (sub_cons rfl (sub_cons rfl (sub_cons rfl (sub_cons rfl (sub_cons rfl (sub_cons rfl sub_nil)))))) | exact Weak.trans (weak_swap 3 4 (by omega) (by omega) (by omega) (by omega)) (Weak.trans (weak_perm (subhp_cons rfl (subhp_cons rfl (subhp_cons rfl (subhp_cons rfl (subhp_cons rfl subhp_nil))))) (subhp_cons rfl (subhp_cons rfl (subhp_cons rfl (subhp_cons rfl (subhp_cons rfl subhp_nil)))))) (weak_sl (sub_cons rfl (sub_cons rfl (sub_cons rfl (sub_cons rfl (sub_cons rfl (sub_cons rfl sub_nil))))))))) ?_
            refine anyS_done (by rfl) ?_
            exact ⟨rfl, rfl⟩
          refine ⟨⟨_, rfl, rfl, ?_⟩, trivial⟩
          refine g1 ?_
          refine anyS_cons T0_ok hP hm hN (by rfl) [7] (by rfl) rfl ?_
          refine ⟨⟨_, rfl, rfl, ?_⟩, trivial⟩
          refine g1 ?_
          refine anyS_cons T0_ok hP hm hN (by rfl) [8] (by rfl) rfl ?_
          refine ⟨⟨_, rfl, rfl, ?_⟩, trivial⟩
          refine g1 ?_
          refine anyS_cons T0_ok hP hm hN (by rfl) [12] (by rfl) rfl ?_
          refine ⟨⟨_, rfl, rfl, ?_⟩, trivial⟩
          refine g1 ?_
          refine anyS_weak (st' := ⟨[(8, .ptr 4 0 0), (7, .ptr 3 0 0), (1, .val (.int .i64 k)), (2, .ptr 0 0 0), (4, .ptr 1 0 0), (5, .ptr 2 0 0)], [(4, ⟨29, 2, true, [[.val (.int .i16 (p - k)), .nil]]⟩), (3, ⟨29, 2, true, [[.val (.int .i16 k), .nil]]⟩), (2, ⟨29, 2, true, [[.val (.int .i16 0), .nil]]⟩), (1, ⟨29, 2, true, [[.val (.int .i16 0), .nil]]⟩), (0, ⟨29, 2, true, [[.val (.int .i16 p), .sl 9 (pls xs)]]⟩)], 5⟩) (by first | exact weak_sl (sub_cons rfl (sub_cons rfl (sub_cons rfl (sub_cons rfl (sub_cons rfl (sub_cons rfl sub_nil)))))) | exact Weak.trans (weak_swap 3 4 (by omega) (by omega) (by omega) (by omega)) (Weak.trans (weak_perm (subhp_cons rfl (subhp_cons rfl (subhp_cons rfl (subhp_cons rfl (subhp_cons rfl subhp_nil))))) (subhp_cons rfl (subhp_cons rfl (subhp_cons rfl (subhp_cons rfl (subhp_cons rfl subhp_nil)))))) (weak_sl (sub_cons rfl (sub_cons rfl (sub_cons rfl (sub_cons rfl (sub_cons rfl (sub_cons rfl sub_nil))))))))) ?_
          refine anyS_done (by rfl) ?_
          exact ⟨rfl, rfl⟩
        refine ⟨⟨_, rfl, rfl, ?_⟩, trivial⟩
        refine g1 ?_
        refine anyS_cons T0_ok hP hm hN (by rfl) [4] (by rfl) rfl ?_
        refine ⟨⟨_, rfl, rfl, ?_⟩, trivial⟩
        refine g1 ?_
        refine anyS_cons T0_ok hP hm hN (by rfl) [7] (by rfl) rfl ?_
        refine ⟨⟨_, rfl, rfl, ?_⟩, trivial⟩
        refine g1 ?_
        refine anyS_cons T0_ok hP hm hN (by rfl) [8] (by rfl) rfl ?_
        refine ⟨⟨_, rfl, rfl, ?_⟩, trivial⟩
        refine g1 ?_
        refine anyS_cons T0_ok hP hm hN (by rfl) [12] (by rfl) rfl ?_
        refine ⟨⟨_, rfl, rfl, ?_⟩, trivial⟩
        refine g1 ?_
        refine anyS_weak (st' := ⟨[(8, .ptr 4 0 0), (7, .ptr 3 0 0), (1, .val (.int .i64 k)), (2, .ptr 0 0 0), (4, .ptr 1 0 0), (5, .ptr 2 0 0)], [(4, ⟨29, 2, true, [[.val (.int .i16 (p - k)), .nil]]⟩), (3, ⟨29, 2, true, [[.val (.int .i16 k), .nil]]⟩), (2, ⟨29, 2, true, [[.val (.int .i16 0), .nil]]⟩), (1, ⟨29, 2, true, [[.val (.int .i16 0), .nil]]⟩), (0, ⟨29, 2, true, [[.val (.int .i16 p), .sl 9 (pls xs)]]⟩)], 5⟩) (by first | exact weak_sl (sub_cons rfl (sub_cons rfl (sub_cons rfl (sub_cons rfl (sub_cons rfl (sub_cons rfl sub_nil)))))) | exact Weak.trans (weak_swap 3 4 (by omega) (by omega) (by omega) (by omega)) (Weak.trans (weak_perm (subhp_cons rfl (subhp_cons rfl (subhp_cons rfl (subhp_cons rfl (subhp_cons rfl subhp_nil))))) (subhp_cons rfl (subhp_cons rfl (subhp_cons rfl (subhp_cons rfl (subhp_cons rfl subhp_nil)))))) (weak_sl (sub_cons rfl (sub_cons rfl (sub_cons rfl (sub_cons rfl (sub_cons rfl (sub_cons rfl sub_nil))))))))) ?_
        refine anyS_done (by rfl) ?_
        exact ⟨rfl, rfl⟩
      · skip
        refine awp_seq ?_
        refine awp_seq ?_
        refine r1 T0_ok hP hm hN ?_
        refine g1 ?_
        refine g1 ?_
        refine g1 ?_
        refine g1 ?_
        refine awp_block ?_
        have hll := lohi_len k xs
        refine awp_loop (fun n st => ∃ i : Nat, i ≤ xs.length ∧ n = xs.length - i ∧ st = ⟨[(39, .val (.int .i64 (i : Nat))), (38, .val (.int .i64 (xs.length : Nat))), (37, .sl 9 (pls xs)), (4, .ptr 1 0 0), (5, .ptr 2 0 0), (7, .ptr 3 0 0), (8, .ptr 4 0 0)], [(6, ⟨47, 9, false, pls (hiF k xs i)⟩), (5, ⟨47, 9, false, pls (loF k xs i)⟩), (4, ⟨29, 2, true, [[.val (.int .i16 (p - k)), .own 6]]⟩), (3, ⟨29, 2, true, [[.val (.int .i16 k), .own 5]]⟩), (2, ⟨29, 2, true, [[.val (.int .i16 0), .nil]]⟩), (1, ⟨29, 2, true, [[.val (.int .i16 0), .nil]]⟩), (0, ⟨29, 2, true, [[.val (.int .i16 p), .sl 9 (pls xs)]]⟩)], 7⟩) (xs.length) ⟨_, (by exact Weak.trans (weak_nilO 3 0 1 47 9 rfl rfl rfl rfl) (Weak.trans (weak_nilO 4 0 1 47 9 rfl rfl rfl rfl) (weak_sl (sub_cons rfl (sub_cons rfl (sub_cons rfl (sub_cons rfl (sub_cons rfl (sub_cons rfl (sub_cons rfl (sub_nil))))))))))), 0, by omega, rfl, rfl⟩ ?_
        rintro n st ⟨i, hii, hni, rfl⟩
        have hli := hll i
        refine awp_seq ?_
        refine r1 T0_ok hP hm hN ?_
        refine g1 ?_
        refine awp_seq ?_
        refine awp_cond rfl (fun hc2 => ?_) (fun hc2 => ?_)
        · skip
          have hlti : i < xs.length := by simpa using hc2
          obtain ⟨hx1, hx2⟩ := hat i hlti
          refine awp_skip ?_
          refine awp_seq ?_
          refine awp_block ?_
          refine awp_seq ?_
          refine r1 T0_ok hP hm hN ?_
          refine g1 ?_
          refine g1 ?_
          refine g1 ?_
          refine g1 ?_
          refine awp_seq ?_
          refine r1 T0_ok hP hm hN ?_
          refine g1 ?_
          refine g1 ?_
          refine g1 ?_
          refine g1 ?_
          refine g1 ?_
          refine awp_cond rfl (fun hc3 => ?_) (fun hc3 => ?_)
          · skip
            have hlt3 : (xs.getD i pl0).1 < k := by simpa using hc3
            have hlo : loF k xs (i + 1) = loF k xs i ++ [xs.getD i pl0] := by rw [loF, if_pos hlt3]
            have hhi : hiF k xs (i + 1) = hiF k xs i := by rw [hiF, if_pos hlt3]
            refine r1 T0_ok hP hm hN ?_
            refine g1 ?_
            refine g1 ?_
            refine g1 ?_
            refine g1 ?_
            refine ga1 ?_
            refine g1 ?_
            refine g1 ?_
            refine r1 T0_ok hP hm hN ?_
            refine g1 ?_
            refine g1 ?_
            refine ⟨xs.length - (i + 1), _, by omega, (by rw [hlo, hhi]; (try rw [pls_app]); exact Weak.trans (weak_drop 8) (Weak.trans (weak_drop 7) (Weak.trans (weak_nx (nx' := 7) (by omega) (by rfl)) (weak_sl (sub_cons rfl (sub_cons rfl (sub_cons rfl (sub_cons rfl (sub_cons rfl (sub_cons rfl (sub_cons rfl (sub_nil)))))))))))), i + 1, by omega, rfl, rfl⟩
          · skip
            have hlt3 : ¬ (xs.getD i pl0).1 < k := by simpa using hc3
            have hlo : loF k xs (i + 1) = loF k xs i := by rw [loF, if_neg hlt3]
            have hhi : hiF k xs (i + 1) = hiF k xs i ++ [((xs.getD i pl0).1 - k, (xs.getD i pl0).2)] := by rw [hiF, if_neg hlt3]
            refine r1 T0_ok hP hm hN ?_
            refine g1 ?_
            refine g1 ?_
            refine g1 ?_
            refine g1 ?_
            refine g1 ?_
            refine g1 ?_
            refine g1 ?_
            refine g1 ?_
            refine g1 ?_
            refine g1 ?_
            refine g1 ?_
            refine ga1 ?_
            refine g1 ?_
            refine g1 ?_
            refine r1 T0_ok hP hm hN ?_
            refine g1 ?_
            refine g1 ?_
            refine ⟨xs.length - (i + 1), _, by omega, (by rw [hlo, hhi]; (try rw [pls_app]); exact Weak.trans (weak_drop 8) (Weak.trans (weak_drop 7) (Weak.trans (weak_nx (nx' := 7) (by omega) (by rfl)) (weak_sl (sub_cons rfl (sub_cons rfl (sub_cons rfl (sub_cons rfl (sub_cons rfl (sub_cons rfl (sub_cons rfl (sub_nil)))))))))))), i + 1, by omega, rfl, rfl⟩
        · skip
          have hgei : ¬ i < xs.length := by simpa using hc2
          have heqi : i = xs.length := by omega
          rw [heqi]
          refine awp_exit ?_
          repeat refine thenA_exit ?_
          refine blockA_hit ?_
          refine awp_seq ?_
          refine awp_any hP Pr_mix _ rfl 5 rfl ?_
          refine anyS_cons T0_ok hP hm hN (by rfl) [0, 1] (by rfl) rfl ?_
          refine ⟨⟨_, rfl, rfl, ?_⟩, ?_⟩
          · skip
            refine g1 ?_
            refine anyS_cons T0_ok hP hm hN (by rfl) [1, 2] (by rfl) rfl ?_
            refine ⟨⟨_, rfl, rfl, ?_⟩, ?_⟩
            · skip
              refine g1 ?_
              refine anyS_cons T0_ok hP hm hN (by rfl) [2] (by rfl) rfl ?_
              refine ⟨⟨_, rfl, rfl, ?_⟩, trivial⟩
              refine g1 ?_
              refine anyS_cons T0_ok hP hm hN (by rfl) [3] (by rfl) rfl ?_
              refine ⟨⟨_, rfl, rfl, ?_⟩, trivial⟩
              refine g1 ?_
              refine anyS_cons T0_ok hP hm hN (by rfl) [4] (by rfl) rfl ?_
              refine ⟨⟨_, rfl, rfl, ?_⟩, trivial⟩
              refine g1 ?_
              refine anyS_done (by rfl) ?_
              refine awp_ret ?_
              refine fin_mk [5, 6] rfl rfl ?_ (by simp only [hr]; exact objs_cons rfl rfl rfl rfl rfl (.inl rfl) (objs_cons rfl rfl rfl rfl rfl (.inl rfl) objs_nil)) (by decide)
              show D.tup [.agg [.val (.int .i16 (splR (validR p xs) p k xs).1), .own 5], .agg [.val (.int .i16 (splR (validR p xs) p k xs).2.2.1), .own 6], .val (.int .i64 (splR (validR p xs) p k xs).2.2.2.2)] = _
              rw [hr]
              rfl
            refine ⟨⟨_, rfl, rfl, ?_⟩, trivial⟩
            refine g1 ?_
            refine anyS_cons T0_ok hP hm hN (by rfl) [1] (by rfl) rfl ?_
            refine ⟨⟨_, rfl, rfl, ?_⟩, trivial⟩
            refine g1 ?_
            refine anyS_cons T0_ok hP hm hN (by rfl) [3] (by rfl) rfl ?_
            refine ⟨⟨_, rfl, rfl, ?_⟩, trivial⟩
            refine g1 ?_
            refine anyS_cons T0_ok hP hm hN (by rfl) [4] (by rfl) rfl ?_
            refine ⟨⟨_, rfl, rfl, ?_⟩, trivial⟩
            refine g1 ?_
            refine anyS_done (by rfl) ?_
            refine awp_ret ?_
            refine fin_mk [5, 6] rfl rfl ?_ (by simp only [hr]; exact objs_cons rfl rfl rfl rfl rfl (.inl rfl) (objs_cons rfl rfl rfl rfl rfl (.inl rfl) objs_nil)) (by decide)
            show D.tup [.agg [.val (.int .i16 (splR (validR p xs) p k xs).1), .own 5], .agg [.val (.int .i16 (splR (validR p xs) p k xs).2.2.1), .own 6], .val (.int .i64 (splR (validR p xs) p k xs).2.2.2.2)] = _
            rw [hr]
            rfl
          refine ⟨⟨_, rfl, rfl, ?_⟩, trivial⟩
          refine g1 ?_
          refine anyS_cons T0_ok hP hm hN (by rfl) [0] (by rfl) rfl ?_
          refine ⟨⟨_, rfl, rfl, ?_⟩, trivial⟩
          refine g1 ?_
          refine anyS_cons T0_ok hP hm hN (by rfl) [2] (by rfl) rfl ?_
          refine ⟨⟨_, rfl, rfl, ?_⟩, trivial⟩
          refine g1 ?_
          refine anyS_cons T0_ok hP hm hN (by rfl) [3] (by rfl) rfl ?_
          refine ⟨⟨_, rfl, rfl, ?_⟩, trivial⟩
          refine g1 ?_
          refine anyS_cons T0_ok hP hm hN (by rfl) [4] (by rfl) rfl ?_
          refine ⟨⟨_, rfl, rfl, ?_⟩, trivial⟩
          refine g1 ?_
          refine anyS_done (by rfl) ?_
          refine awp_ret ?_
          refine fin_mk [5, 6] rfl rfl ?_ (by simp only [hr]; exact objs_cons rfl rfl rfl rfl rfl (.inl rfl) (objs_cons rfl rfl rfl rfl rfl (.inl rfl) objs_nil)) (by decide)
          show D.tup [.agg [.val (.int .i16 (splR (validR p xs) p k xs).1), .own 5], .agg [.val (.int .i16 (splR (validR p xs) p k xs).2.2.1), .own 6], .val (.int .i64 (splR (validR p xs) p k xs).2.2.2.2)] = _
          rw [hr]
          rfl
end Go.Proofs.Ytamdnmkdhpleiaa.Abs
