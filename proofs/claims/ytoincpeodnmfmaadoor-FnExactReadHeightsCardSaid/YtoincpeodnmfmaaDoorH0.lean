import Derived.Test.YtoincpeodnmfmaaDoorR6
set_option linter.unusedVariables false
set_option linter.unusedSimpArgs false
namespace Go.Proofs.YtoincpeodnmfmaaDoor.Abs
open Go Go.RowKit
def htR (ok : Bool) (a b c : Int) (xs : List Int) : ByteArray := if ok then joinH a b c xs else ⟨#[]⟩
theorem valid_in4 {a b c : Int} {xs : List Int} (h : validH a b c xs = true) : in4 a ∧ in4 b ∧ in4 c ∧ (∀ n ∈ xs, in4 n) ∧ xs.length ≤ 6 := by
  rw [validH, Bool.and_eq_true, Bool.and_eq_true, Bool.and_eq_true, List.all_eq_true, pegsOk_iff] at h
  obtain ⟨⟨⟨⟨h1, h2, h3⟩, h4⟩, _⟩, h5⟩ := h
  have h6 := inI_iff.1 h4
  refine ⟨⟨by omega, by omega⟩, ⟨by omega, by omega⟩, ⟨by omega, by omega⟩, fun n hn => ?_, by omega⟩
  have h7 := h5 n hn
  rw [isH, Bool.and_eq_true] at h7
  have h8 := inI_iff.1 h7.1
  exact ⟨by omega, by omega⟩

noncomputable abbrev s_I_dec_int64 : Spec Int where
  args := fun n => [.val (.int .i64 n)]
  pre := fun n => in4 n
  res := fun n => .val (.string (decS n))

set_option maxRecDepth 20000 in
set_option maxHeartbeats 1000000 in
theorem ok_I_dec_int64 : FnOk Pr 51 s_I_dec_int64 := by
  refine fn_ok 1 0 T0_ok Go.Proofs.Tryd.func51 rfl (enters_of Go.Proofs.Tryd.func51 rfl rfl) (fun _ => rfl) (fun _ => rfl) (fun _ => rfl) ?_
  rintro n ⟨hn0, hn1⟩ C hP hN hm hG
  change awp C _ _ ⟨[(0, .val (.int .i64 n))], [], 0⟩
  have hn0 : 0 ≤ n := hn0
  have hn1 : n < 10000 := hn1
  refine awp_seq ?_
  refine r1 T0_ok hP hm hN ?_
  refine g1 ?_
  refine awp_seq ?_
  refine r1 T0_ok hP hm hN ?_
  refine g1 ?_
  refine gc1 ?_ (call1 ok_strconv_FormatInt _ [] (hpre := by (try dsimp only); exact ⟨by omega, by omega⟩))
  refine g1 ?_
  refine awp_ret ?_
  refine fin_mk [] rfl rfl ?_ trivial (by decide)
  rfl

theorem does_dec {xs : List Int} (h : ∀ n ∈ xs, in4 n) : Does Pr (fun n => [i64D n]) (· ∈ xs) (fun n => strD (decS n)) (.val (.func (.func 51) #[] #[])) :=
  ⟨51, [], [], s_I_dec_int64, rfl, rfl, rfl, ok_I_dec_int64, fun _ => rfl, fun n hn => h n hn, fun _ => rfl, fun _ => rfl, fun _ => rfl, fun _ => rfl⟩

noncomputable abbrev s_I_each_int64_string : Spec (List Int × D × (Int → ByteArray)) where
  args := fun x => [.sl 1 (i64s x.1), x.2.1]
  pre := fun x => x.1.length ≤ 1048576 ∧ fnCell x.2.1 = true ∧ Does Pr (fun p => [i64D p]) (· ∈ x.1) (fun p => strD (x.2.2 p)) x.2.1
  new := fun x => [⟨9, 1, false, strs (x.1.map x.2.2)⟩]
  res := fun x => .own 0

set_option maxRecDepth 20000 in
set_option maxHeartbeats 1000000 in
theorem ok_I_each_int64_string : FnOk Pr 50 s_I_each_int64_string := by
  refine fn_ok 2 0 T0_ok Go.Proofs.Tryd.func50 rfl (enters_of Go.Proofs.Tryd.func50 rfl rfl) (fun _ => rfl) (fun _ => rfl) (fun _ => rfl) ?_
  rintro ⟨xs, fn, g⟩ ⟨hp, hf0, hask⟩ C hP hN hm hG
  simp only at hf0 hask
  obtain ⟨v, rfl⟩ | ⟨cf, cs, rfl⟩ := fnCell_cases hf0
  · skip
    change awp C _ _ ⟨[(0, .sl 1 (i64s xs)), (1, .val v)], [], 0⟩
    simp only at hp
    refine awp_seq ?_
    refine r1 T0_ok hP hm hN ?_
    refine g1 ?_
    refine awp_seq ?_
    refine r1 T0_ok hP hm hN ?_
    refine g1 ?_
    refine awp_seq ?_
    refine awp_seq ?_
    refine r1 T0_ok hP hm hN ?_
    refine g1 ?_
    refine g1 ?_
    refine g1 ?_
    refine awp_block ?_
    refine awp_loop (fun n st => ∃ i : Nat, i ≤ xs.length ∧ n = xs.length - i ∧ st = ⟨[(10, .val (.int .i64 (i : Nat))), (9, .val (.int .i64 (xs.length : Nat))), (8, .sl 1 (i64s xs)), (5, .own 0), (1, .val v)], [(0, ⟨9, 1, false, strs (mapF g xs i)⟩)], 1⟩) (xs.length) ⟨_, (by exact Weak.trans (weak_nil 5 9 1 rfl) (weak_sl (sub_cons rfl (sub_cons rfl (sub_cons rfl (sub_cons rfl (sub_cons rfl (sub_nil)))))))), 0, by omega, rfl, rfl⟩ ?_
    rintro n st ⟨i, hii, hni, rfl⟩
    have hml := mapF_len g xs hii
    refine awp_seq ?_
    refine r1 T0_ok hP hm hN ?_
    refine g1 ?_
    refine awp_seq ?_
    refine awp_cond rfl (fun hc0 => ?_) (fun hc0 => ?_)
    · skip
      have hlti : i < xs.length := by simpa using hc0
      refine awp_skip ?_
      refine awp_seq ?_
      refine awp_block ?_
      refine awp_seq ?_
      refine r1 T0_ok hP hm hN ?_
      refine g1 ?_
      refine g1 ?_
      refine g1 ?_
      refine r1 T0_ok hP hm hN ?_
      refine g1 ?_
      refine g1 ?_
      refine g1 ?_
      refine gc1 ?_ (OpRel.does hask _ (getD_mem' hlti) rfl rfl rfl rfl rfl rfl)
      refine g1 ?_
      refine ga1 ?_
      refine g1 ?_
      refine r1 T0_ok hP hm hN ?_
      refine g1 ?_
      refine g1 ?_
      refine ⟨xs.length - (i + 1), _, by omega, (by rw [mapF_succ (d := 0) g hlti, strs_app]; exact Weak.trans (weak_drop 2) (Weak.trans (weak_drop 1) (Weak.trans (weak_nx (nx' := 1) (by omega) (by rfl)) (weak_sl (sub_cons rfl (sub_cons rfl (sub_cons rfl (sub_cons rfl (sub_cons rfl (sub_nil)))))))))), i + 1, by omega, rfl, rfl⟩
    · skip
      have hgei : ¬ i < xs.length := by simpa using hc0
      have heqi : i = xs.length := by omega
      rw [heqi, mapF_all]
      refine awp_exit ?_
      repeat refine thenA_exit ?_
      refine blockA_hit ?_
      refine awp_seq ?_
      refine r1 T0_ok hP hm hN ?_
      refine g1 ?_
      refine g1 ?_
      refine awp_ret ?_
      refine fin_mk [0] rfl rfl ?_ (objs_cons rfl rfl rfl rfl rfl (.inl rfl) objs_nil) (by decide)
      rfl
  · skip
    change awp C _ _ ⟨[(0, .sl 1 (i64s xs)), (1, .clo cf cs)], [], 0⟩
    simp only at hp
    refine awp_seq ?_
    refine r1 T0_ok hP hm hN ?_
    refine g1 ?_
    refine awp_seq ?_
    refine r1 T0_ok hP hm hN ?_
    refine g1 ?_
    refine awp_seq ?_
    refine awp_seq ?_
    refine r1 T0_ok hP hm hN ?_
    refine g1 ?_
    refine g1 ?_
    refine g1 ?_
    refine awp_block ?_
    refine awp_loop (fun n st => ∃ i : Nat, i ≤ xs.length ∧ n = xs.length - i ∧ st = ⟨[(10, .val (.int .i64 (i : Nat))), (9, .val (.int .i64 (xs.length : Nat))), (8, .sl 1 (i64s xs)), (5, .own 0), (1, .clo cf cs)], [(0, ⟨9, 1, false, strs (mapF g xs i)⟩)], 1⟩) (xs.length) ⟨_, (by exact Weak.trans (weak_nil 5 9 1 rfl) (weak_sl (sub_cons rfl (sub_cons rfl (sub_cons rfl (sub_cons rfl (sub_cons rfl (sub_nil)))))))), 0, by omega, rfl, rfl⟩ ?_
    rintro n st ⟨i, hii, hni, rfl⟩
    have hml := mapF_len g xs hii
    refine awp_seq ?_
    refine r1 T0_ok hP hm hN ?_
    refine g1 ?_
    refine awp_seq ?_
    refine awp_cond rfl (fun hc0 => ?_) (fun hc0 => ?_)
    · skip
      have hlti : i < xs.length := by simpa using hc0
      refine awp_skip ?_
      refine awp_seq ?_
      refine awp_block ?_
      refine awp_seq ?_
      refine r1 T0_ok hP hm hN ?_
      refine g1 ?_
      refine g1 ?_
      refine g1 ?_
      refine r1 T0_ok hP hm hN ?_
      refine g1 ?_
      refine g1 ?_
      refine g1 ?_
      refine gc1 ?_ (OpRel.does hask _ (getD_mem' hlti) rfl rfl rfl rfl rfl rfl)
      refine g1 ?_
      refine ga1 ?_
      refine g1 ?_
      refine r1 T0_ok hP hm hN ?_
      refine g1 ?_
      refine g1 ?_
      refine ⟨xs.length - (i + 1), _, by omega, (by rw [mapF_succ (d := 0) g hlti, strs_app]; exact Weak.trans (weak_drop 2) (Weak.trans (weak_drop 1) (Weak.trans (weak_nx (nx' := 1) (by omega) (by rfl)) (weak_sl (sub_cons rfl (sub_cons rfl (sub_cons rfl (sub_cons rfl (sub_cons rfl (sub_nil)))))))))), i + 1, by omega, rfl, rfl⟩
    · skip
      have hgei : ¬ i < xs.length := by simpa using hc0
      have heqi : i = xs.length := by omega
      rw [heqi, mapF_all]
      refine awp_exit ?_
      repeat refine thenA_exit ?_
      refine blockA_hit ?_
      refine awp_seq ?_
      refine r1 T0_ok hP hm hN ?_
      refine g1 ?_
      refine g1 ?_
      refine awp_ret ?_
      refine fin_mk [0] rfl rfl ?_ (objs_cons rfl rfl rfl rfl rfl (.inl rfl) objs_nil) (by decide)
      rfl

noncomputable abbrev s_I_heightsText : Spec ((Int × Int × Int) × List Int) where
  args := fun x => [pegs x.1, .sl 1 (i64s x.2)]
  pre := fun x => in4 x.1.1 ∧ in4 x.1.2.1 ∧ in4 x.1.2.2 ∧ (∀ n ∈ x.2, in4 n) ∧ x.2.length ≤ 6
  res := fun x => .val (.string (joinH x.1.1 x.1.2.1 x.1.2.2 x.2))

set_option maxRecDepth 20000 in
set_option maxHeartbeats 4000000 in
theorem ok_I_heightsText : FnOk Pr 31 s_I_heightsText := by
  refine fn_ok 2 0 T0_ok Go.Proofs.Tryd.func31 rfl (enters_of Go.Proofs.Tryd.func31 rfl rfl) (fun _ => rfl) (fun _ => rfl) (fun _ => rfl) ?_
  rintro ⟨⟨a, b, c⟩, xs⟩ ⟨ha, hb, hc, hx, hl⟩ C hP hN hm hG
  change awp C _ _ ⟨[(0, .val (.agg #[.int .i16 a, .int .i16 b, .int .i16 c])), (1, .sl 1 (i64s xs))], [], 0⟩
  simp only at ha hb hc hx hl
  obtain ⟨ha1, ha2⟩ := id ha
  obtain ⟨hb1, hb2⟩ := id hb
  obtain ⟨hc1, hc2⟩ := id hc
  refine awp_seq ?_
  refine r1 T0_ok hP hm hN ?_
  refine g1 ?_
  refine g1 ?_
  refine awp_seq ?_
  refine awp_join (st1 := ⟨[(4, .val (.string (joinH a b c xs))), (1, .sl 1 (i64s xs)), (2, .ptr 0 0 0)], [(2, ⟨9, 1, false, strs (xs.map decS)⟩), (1, ⟨9, 1, false, strs (htL a b c xs)⟩), (0, ⟨30, 3, true, [[.val (.int .i16 a), .val (.int .i16 b), .val (.int .i16 c)]]⟩)], 3⟩) ?_ ?_
  · skip
    refine awp_any hP Pr_mix _ rfl 15 rfl ?_
    refine anyS_cut (fuel' := 0) (listed' := #[true, true, true, true, true, true, true, true, true, true, true, true, true, true, true]) (st' := ⟨[(4, .val (.string (joinH a b c xs))), (1, .sl 1 (i64s xs)), (2, .ptr 0 0 0)], [(2, ⟨9, 1, false, strs (xs.map decS)⟩), (1, ⟨9, 1, false, strs (htL a b c xs)⟩), (0, ⟨30, 3, true, [[.val (.int .i16 a), .val (.int .i16 b), .val (.int .i16 c)]]⟩)], 3⟩) ?_ (fun hS0 => ?_)
    · skip
      refine anyS_done (by rfl) ?_
      exact ⟨rfl, rfl⟩
    refine anyS_cut (fuel' := 1) (listed' := #[true, true, true, true, true, true, true, true, true, true, true, true, true, true, false]) (st' := ⟨[(18, .val (.string (joinH a b c xs))), (1, .sl 1 (i64s xs)), (2, .ptr 0 0 0)], [(2, ⟨9, 1, false, strs (xs.map decS)⟩), (1, ⟨9, 1, false, strs (htL a b c xs)⟩), (0, ⟨30, 3, true, [[.val (.int .i16 a), .val (.int .i16 b), .val (.int .i16 c)]]⟩)], 3⟩) ?_ (fun hS1 => ?_)
    · skip
      refine anyS_cons T0_ok hP hm hN (by rfl) [14] (by rfl) rfl ?_
      refine ⟨⟨_, rfl, rfl, ?_⟩, trivial⟩
      refine g1 ?_
      exact anyS_weak (st' := ⟨[(4, .val (.string (joinH a b c xs))), (1, .sl 1 (i64s xs)), (2, .ptr 0 0 0)], [(2, ⟨9, 1, false, strs (xs.map decS)⟩), (1, ⟨9, 1, false, strs (htL a b c xs)⟩), (0, ⟨30, 3, true, [[.val (.int .i16 a), .val (.int .i16 b), .val (.int .i16 c)]]⟩)], 3⟩) (by first | exact weak_sl (sub_cons rfl (sub_cons rfl (sub_cons rfl (sub_nil)))) | exact Weak.trans (weak_swap 1 2 (by omega) (by omega) (by omega) (by omega)) (Weak.trans (weak_perm (subhp_cons rfl (subhp_cons rfl (subhp_cons rfl (subhp_nil)))) (subhp_cons rfl (subhp_cons rfl (subhp_cons rfl (subhp_nil))))) (weak_sl (sub_cons rfl (sub_cons rfl (sub_cons rfl (sub_nil))))))) hS0
    refine anyS_cut (fuel' := 2) (listed' := #[true, true, true, true, true, true, true, true, true, true, true, true, true, false, false]) (st' := ⟨[(17, .own 1), (1, .sl 1 (i64s xs)), (2, .ptr 0 0 0)], [(2, ⟨9, 1, false, strs (xs.map decS)⟩), (1, ⟨9, 1, false, strs (htL a b c xs)⟩), (0, ⟨30, 3, true, [[.val (.int .i16 a), .val (.int .i16 b), .val (.int .i16 c)]]⟩)], 3⟩) ?_ (fun hS2 => ?_)
    · skip
      refine anyS_cons T0_ok hP hm hN (by rfl) [13] (by rfl) rfl ?_
      refine ⟨⟨_, rfl, rfl, ?_⟩, trivial⟩
      refine gc1 ?_ (call1 ok_strings_Join (htL a b c xs, spB) [] (hpre := by (try dsimp only); exact ⟨by simp [htL]; omega, by have := joinH_small ha hb hc hx; show (Lib.join _ [32]).length ≤ _; omega⟩))
      exact anyS_weak (st' := ⟨[(18, .val (.string (joinH a b c xs))), (1, .sl 1 (i64s xs)), (2, .ptr 0 0 0)], [(2, ⟨9, 1, false, strs (xs.map decS)⟩), (1, ⟨9, 1, false, strs (htL a b c xs)⟩), (0, ⟨30, 3, true, [[.val (.int .i16 a), .val (.int .i16 b), .val (.int .i16 c)]]⟩)], 3⟩) (by first | exact weak_sl (sub_cons rfl (sub_cons rfl (sub_cons rfl (sub_nil)))) | exact Weak.trans (weak_swap 1 2 (by omega) (by omega) (by omega) (by omega)) (Weak.trans (weak_perm (subhp_cons rfl (subhp_cons rfl (subhp_cons rfl (subhp_nil)))) (subhp_cons rfl (subhp_cons rfl (subhp_cons rfl (subhp_nil))))) (weak_sl (sub_cons rfl (sub_cons rfl (sub_cons rfl (sub_nil))))))) hS1
    refine anyS_cut (fuel' := 3) (listed' := #[true, true, true, true, true, true, true, true, true, true, true, true, false, false, false]) (st' := ⟨[(14, .own 1), (16, .own 2), (1, .sl 1 (i64s xs)), (2, .ptr 0 0 0)], [(2, ⟨9, 1, false, strs (xs.map decS)⟩), (1, ⟨9, 1, false, strs [decS a, decS b, decS c]⟩), (0, ⟨30, 3, true, [[.val (.int .i16 a), .val (.int .i16 b), .val (.int .i16 c)]]⟩)], 3⟩) ?_ (fun hS3 => ?_)
    · skip
      refine anyS_cons T0_ok hP hm hN (by rfl) [12] (by rfl) rfl ?_
      refine ⟨⟨_, rfl, rfl, ?_⟩, trivial⟩
      refine ga1 ?_
      exact anyS_weak (st' := ⟨[(17, .own 1), (1, .sl 1 (i64s xs)), (2, .ptr 0 0 0)], [(2, ⟨9, 1, false, strs (xs.map decS)⟩), (1, ⟨9, 1, false, strs (htL a b c xs)⟩), (0, ⟨30, 3, true, [[.val (.int .i16 a), .val (.int .i16 b), .val (.int .i16 c)]]⟩)], 3⟩) (by first | exact weak_sl (sub_cons rfl (sub_cons rfl (sub_cons rfl (sub_nil)))) | exact Weak.trans (weak_swap 1 2 (by omega) (by omega) (by omega) (by omega)) (Weak.trans (weak_perm (subhp_cons rfl (subhp_cons rfl (subhp_cons rfl (subhp_nil)))) (subhp_cons rfl (subhp_cons rfl (subhp_cons rfl (subhp_nil))))) (weak_sl (sub_cons rfl (sub_cons rfl (sub_cons rfl (sub_nil))))))) hS2
    refine anyS_cut (fuel' := 4) (listed' := #[true, true, true, true, true, true, true, true, true, true, true, false, false, false, false]) (st' := ⟨[(14, .own 1), (15, .sl 1 (i64s xs)), (1, .sl 1 (i64s xs)), (2, .ptr 0 0 0)], [(1, ⟨9, 1, false, strs [decS a, decS b, decS c]⟩), (0, ⟨30, 3, true, [[.val (.int .i16 a), .val (.int .i16 b), .val (.int .i16 c)]]⟩)], 2⟩) ?_ (fun hS4 => ?_)
    · skip
      refine anyS_cons T0_ok hP hm hN (by rfl) [11] (by rfl) rfl ?_
      refine ⟨⟨_, rfl, rfl, ?_⟩, trivial⟩
      refine gc1 ?_ (call1 ok_I_each_int64_string (xs, _, decS) [] (hpre := by (try dsimp only); exact ⟨by omega, rfl, does_dec hx⟩) (hfo := by intro o ho; simp only [List.nil_append, List.mem_singleton] at ho; subst ho; exact flat_strs _ _ _ _))
      exact anyS_weak (st' := ⟨[(14, .own 1), (16, .own 2), (1, .sl 1 (i64s xs)), (2, .ptr 0 0 0)], [(2, ⟨9, 1, false, strs (xs.map decS)⟩), (1, ⟨9, 1, false, strs [decS a, decS b, decS c]⟩), (0, ⟨30, 3, true, [[.val (.int .i16 a), .val (.int .i16 b), .val (.int .i16 c)]]⟩)], 3⟩) (by first | exact weak_sl (sub_cons rfl (sub_cons rfl (sub_cons rfl (sub_cons rfl (sub_nil))))) | exact Weak.trans (weak_swap 1 2 (by omega) (by omega) (by omega) (by omega)) (Weak.trans (weak_perm (subhp_cons rfl (subhp_cons rfl (subhp_cons rfl (subhp_nil)))) (subhp_cons rfl (subhp_cons rfl (subhp_cons rfl (subhp_nil))))) (weak_sl (sub_cons rfl (sub_cons rfl (sub_cons rfl (sub_cons rfl (sub_nil)))))))) hS3
    refine anyS_cut (fuel' := 4) (listed' := #[true, true, true, true, true, true, true, true, true, false, true, true, false, false, false]) (st' := ⟨[(7, .val (.string (decS a))), (10, .val (.string (decS b))), (13, .val (.string (decS c))), (16, .own 1), (1, .sl 1 (i64s xs)), (2, .ptr 0 0 0)], [(1, ⟨9, 1, false, strs (xs.map decS)⟩), (0, ⟨30, 3, true, [[.val (.int .i16 a), .val (.int .i16 b), .val (.int .i16 c)]]⟩)], 2⟩) ?_ (fun hS5 => ?_)
    · skip
      refine anyS_cons T0_ok hP hm hN (by rfl) [9] (by rfl) rfl ?_
      refine ⟨⟨_, rfl, rfl, ?_⟩, trivial⟩
      refine g1 ?_
      exact anyS_weak (st' := ⟨[(14, .own 1), (16, .own 2), (1, .sl 1 (i64s xs)), (2, .ptr 0 0 0)], [(2, ⟨9, 1, false, strs (xs.map decS)⟩), (1, ⟨9, 1, false, strs [decS a, decS b, decS c]⟩), (0, ⟨30, 3, true, [[.val (.int .i16 a), .val (.int .i16 b), .val (.int .i16 c)]]⟩)], 3⟩) (by first | exact weak_sl (sub_cons rfl (sub_cons rfl (sub_cons rfl (sub_cons rfl (sub_nil))))) | exact Weak.trans (weak_swap 1 2 (by omega) (by omega) (by omega) (by omega)) (Weak.trans (weak_perm (subhp_cons rfl (subhp_cons rfl (subhp_cons rfl (subhp_nil)))) (subhp_cons rfl (subhp_cons rfl (subhp_cons rfl (subhp_nil))))) (weak_sl (sub_cons rfl (sub_cons rfl (sub_cons rfl (sub_cons rfl (sub_nil)))))))) hS3
    refine anyS_cut (fuel' := 5) (listed' := #[true, true, true, true, true, true, true, true, true, false, true, false, false, false, false]) (st' := ⟨[(7, .val (.string (decS a))), (10, .val (.string (decS b))), (13, .val (.string (decS c))), (15, .sl 1 (i64s xs)), (1, .sl 1 (i64s xs)), (2, .ptr 0 0 0)], [(0, ⟨30, 3, true, [[.val (.int .i16 a), .val (.int .i16 b), .val (.int .i16 c)]]⟩)], 1⟩) ?_ (fun hS6 => ?_)
    · skip
      refine anyS_cons T0_ok hP hm hN (by rfl) [9, 11] (by rfl) rfl ?_
      refine ⟨⟨_, rfl, rfl, ?_⟩, ?_⟩
      · skip
        refine g1 ?_
        exact anyS_weak (st' := ⟨[(14, .own 1), (15, .sl 1 (i64s xs)), (1, .sl 1 (i64s xs)), (2, .ptr 0 0 0)], [(1, ⟨9, 1, false, strs [decS a, decS b, decS c]⟩), (0, ⟨30, 3, true, [[.val (.int .i16 a), .val (.int .i16 b), .val (.int .i16 c)]]⟩)], 2⟩) (by exact weak_sl (sub_cons rfl (sub_cons rfl (sub_cons rfl (sub_cons rfl (sub_nil)))))) hS4
      refine ⟨⟨_, rfl, rfl, ?_⟩, trivial⟩
      refine gc1 ?_ (call1 ok_I_each_int64_string (xs, _, decS) [] (hpre := by (try dsimp only); exact ⟨by omega, rfl, does_dec hx⟩) (hfo := by intro o ho; simp only [List.nil_append, List.mem_singleton] at ho; subst ho; exact flat_strs _ _ _ _))
      exact anyS_weak (st' := ⟨[(7, .val (.string (decS a))), (10, .val (.string (decS b))), (13, .val (.string (decS c))), (16, .own 1), (1, .sl 1 (i64s xs)), (2, .ptr 0 0 0)], [(1, ⟨9, 1, false, strs (xs.map decS)⟩), (0, ⟨30, 3, true, [[.val (.int .i16 a), .val (.int .i16 b), .val (.int .i16 c)]]⟩)], 2⟩) (by exact weak_sl (sub_cons rfl (sub_cons rfl (sub_cons rfl (sub_cons rfl (sub_cons rfl (sub_cons rfl (sub_nil)))))))) hS5
    refine anyS_cut (fuel' := 6) (listed' := #[true, true, true, true, true, true, true, true, false, false, true, false, false, false, false]) (st' := ⟨[(7, .val (.string (decS a))), (10, .val (.string (decS b))), (12, .val (.int .i16 c)), (15, .sl 1 (i64s xs)), (1, .sl 1 (i64s xs)), (2, .ptr 0 0 0)], [(0, ⟨30, 3, true, [[.val (.int .i16 a), .val (.int .i16 b), .val (.int .i16 c)]]⟩)], 1⟩) ?_ (fun hS7 => ?_)
    · skip
      refine anyS_cons T0_ok hP hm hN (by rfl) [8] (by rfl) rfl ?_
      refine ⟨⟨_, rfl, rfl, ?_⟩, trivial⟩
      refine gc1 ?_ (call1 ok_I_dec_int16 _ [] (hpre := by (try dsimp only); exact ⟨by omega, by omega⟩))
      exact anyS_weak (st' := ⟨[(7, .val (.string (decS a))), (10, .val (.string (decS b))), (13, .val (.string (decS c))), (15, .sl 1 (i64s xs)), (1, .sl 1 (i64s xs)), (2, .ptr 0 0 0)], [(0, ⟨30, 3, true, [[.val (.int .i16 a), .val (.int .i16 b), .val (.int .i16 c)]]⟩)], 1⟩) (by exact weak_sl (sub_cons rfl (sub_cons rfl (sub_cons rfl (sub_cons rfl (sub_cons rfl (sub_cons rfl (sub_nil)))))))) hS6
    refine anyS_cut (fuel' := 7) (listed' := #[true, true, true, true, true, true, true, false, false, false, true, false, false, false, false]) (st' := ⟨[(7, .val (.string (decS a))), (10, .val (.string (decS b))), (11, .ptr 0 0 2), (15, .sl 1 (i64s xs)), (1, .sl 1 (i64s xs)), (2, .ptr 0 0 0)], [(0, ⟨30, 3, true, [[.val (.int .i16 a), .val (.int .i16 b), .val (.int .i16 c)]]⟩)], 1⟩) ?_ (fun hS8 => ?_)
    · skip
      refine anyS_cons T0_ok hP hm hN (by rfl) [7] (by rfl) rfl ?_
      refine ⟨⟨_, rfl, rfl, ?_⟩, trivial⟩
      refine g1 ?_
      exact anyS_weak (st' := ⟨[(7, .val (.string (decS a))), (10, .val (.string (decS b))), (12, .val (.int .i16 c)), (15, .sl 1 (i64s xs)), (1, .sl 1 (i64s xs)), (2, .ptr 0 0 0)], [(0, ⟨30, 3, true, [[.val (.int .i16 a), .val (.int .i16 b), .val (.int .i16 c)]]⟩)], 1⟩) (by exact weak_sl (sub_cons rfl (sub_cons rfl (sub_cons rfl (sub_cons rfl (sub_cons rfl (sub_cons rfl (sub_nil)))))))) hS7
    refine anyS_cut (fuel' := 7) (listed' := #[true, true, true, true, true, false, true, true, false, false, true, false, false, false, false]) (st' := ⟨[(7, .val (.string (decS a))), (9, .val (.int .i16 b)), (12, .val (.int .i16 c)), (15, .sl 1 (i64s xs)), (1, .sl 1 (i64s xs)), (2, .ptr 0 0 0)], [(0, ⟨30, 3, true, [[.val (.int .i16 a), .val (.int .i16 b), .val (.int .i16 c)]]⟩)], 1⟩) ?_ (fun hS9 => ?_)
    · skip
      refine anyS_cons T0_ok hP hm hN (by rfl) [5] (by rfl) rfl ?_
      refine ⟨⟨_, rfl, rfl, ?_⟩, trivial⟩
      refine gc1 ?_ (call1 ok_I_dec_int16 _ [] (hpre := by (try dsimp only); exact ⟨by omega, by omega⟩))
      exact anyS_weak (st' := ⟨[(7, .val (.string (decS a))), (10, .val (.string (decS b))), (12, .val (.int .i16 c)), (15, .sl 1 (i64s xs)), (1, .sl 1 (i64s xs)), (2, .ptr 0 0 0)], [(0, ⟨30, 3, true, [[.val (.int .i16 a), .val (.int .i16 b), .val (.int .i16 c)]]⟩)], 1⟩) (by exact weak_sl (sub_cons rfl (sub_cons rfl (sub_cons rfl (sub_cons rfl (sub_cons rfl (sub_cons rfl (sub_nil)))))))) hS7
    refine anyS_cut (fuel' := 8) (listed' := #[true, true, true, true, true, false, true, false, false, false, true, false, false, false, false]) (st' := ⟨[(7, .val (.string (decS a))), (9, .val (.int .i16 b)), (11, .ptr 0 0 2), (15, .sl 1 (i64s xs)), (1, .sl 1 (i64s xs)), (2, .ptr 0 0 0)], [(0, ⟨30, 3, true, [[.val (.int .i16 a), .val (.int .i16 b), .val (.int .i16 c)]]⟩)], 1⟩) ?_ (fun hS10 => ?_)
    · skip
      refine anyS_cons T0_ok hP hm hN (by rfl) [5, 7] (by rfl) rfl ?_
      refine ⟨⟨_, rfl, rfl, ?_⟩, ?_⟩
      · skip
        refine gc1 ?_ (call1 ok_I_dec_int16 _ [] (hpre := by (try dsimp only); exact ⟨by omega, by omega⟩))
        exact anyS_weak (st' := ⟨[(7, .val (.string (decS a))), (10, .val (.string (decS b))), (11, .ptr 0 0 2), (15, .sl 1 (i64s xs)), (1, .sl 1 (i64s xs)), (2, .ptr 0 0 0)], [(0, ⟨30, 3, true, [[.val (.int .i16 a), .val (.int .i16 b), .val (.int .i16 c)]]⟩)], 1⟩) (by exact weak_sl (sub_cons rfl (sub_cons rfl (sub_cons rfl (sub_cons rfl (sub_cons rfl (sub_cons rfl (sub_nil)))))))) hS8
      refine ⟨⟨_, rfl, rfl, ?_⟩, trivial⟩
      refine g1 ?_
      exact anyS_weak (st' := ⟨[(7, .val (.string (decS a))), (9, .val (.int .i16 b)), (12, .val (.int .i16 c)), (15, .sl 1 (i64s xs)), (1, .sl 1 (i64s xs)), (2, .ptr 0 0 0)], [(0, ⟨30, 3, true, [[.val (.int .i16 a), .val (.int .i16 b), .val (.int .i16 c)]]⟩)], 1⟩) (by exact weak_sl (sub_cons rfl (sub_cons rfl (sub_cons rfl (sub_cons rfl (sub_cons rfl (sub_cons rfl (sub_nil)))))))) hS9
    refine anyS_cut (fuel' := 8) (listed' := #[true, true, true, true, false, false, true, true, false, false, true, false, false, false, false]) (st' := ⟨[(7, .val (.string (decS a))), (8, .ptr 0 0 1), (12, .val (.int .i16 c)), (15, .sl 1 (i64s xs)), (1, .sl 1 (i64s xs)), (2, .ptr 0 0 0)], [(0, ⟨30, 3, true, [[.val (.int .i16 a), .val (.int .i16 b), .val (.int .i16 c)]]⟩)], 1⟩) ?_ (fun hS11 => ?_)
    · skip
      refine anyS_cons T0_ok hP hm hN (by rfl) [4] (by rfl) rfl ?_
      refine ⟨⟨_, rfl, rfl, ?_⟩, trivial⟩
      refine g1 ?_
      exact anyS_weak (st' := ⟨[(7, .val (.string (decS a))), (9, .val (.int .i16 b)), (12, .val (.int .i16 c)), (15, .sl 1 (i64s xs)), (1, .sl 1 (i64s xs)), (2, .ptr 0 0 0)], [(0, ⟨30, 3, true, [[.val (.int .i16 a), .val (.int .i16 b), .val (.int .i16 c)]]⟩)], 1⟩) (by exact weak_sl (sub_cons rfl (sub_cons rfl (sub_cons rfl (sub_cons rfl (sub_cons rfl (sub_cons rfl (sub_nil)))))))) hS9
    refine anyS_cut (fuel' := 8) (listed' := #[true, true, false, true, true, false, true, true, false, false, true, false, false, false, false]) (st' := ⟨[(6, .val (.int .i16 a)), (9, .val (.int .i16 b)), (12, .val (.int .i16 c)), (15, .sl 1 (i64s xs)), (1, .sl 1 (i64s xs)), (2, .ptr 0 0 0)], [(0, ⟨30, 3, true, [[.val (.int .i16 a), .val (.int .i16 b), .val (.int .i16 c)]]⟩)], 1⟩) ?_ (fun hS12 => ?_)
    · skip
      refine anyS_cons T0_ok hP hm hN (by rfl) [2] (by rfl) rfl ?_
      refine ⟨⟨_, rfl, rfl, ?_⟩, trivial⟩
      refine gc1 ?_ (call1 ok_I_dec_int16 _ [] (hpre := by (try dsimp only); exact ⟨by omega, by omega⟩))
      exact anyS_weak (st' := ⟨[(7, .val (.string (decS a))), (9, .val (.int .i16 b)), (12, .val (.int .i16 c)), (15, .sl 1 (i64s xs)), (1, .sl 1 (i64s xs)), (2, .ptr 0 0 0)], [(0, ⟨30, 3, true, [[.val (.int .i16 a), .val (.int .i16 b), .val (.int .i16 c)]]⟩)], 1⟩) (by exact weak_sl (sub_cons rfl (sub_cons rfl (sub_cons rfl (sub_cons rfl (sub_cons rfl (sub_cons rfl (sub_nil)))))))) hS9
    refine anyS_cut (fuel' := 9) (listed' := #[true, true, true, true, false, false, true, false, false, false, true, false, false, false, false]) (st' := ⟨[(7, .val (.string (decS a))), (8, .ptr 0 0 1), (11, .ptr 0 0 2), (15, .sl 1 (i64s xs)), (1, .sl 1 (i64s xs)), (2, .ptr 0 0 0)], [(0, ⟨30, 3, true, [[.val (.int .i16 a), .val (.int .i16 b), .val (.int .i16 c)]]⟩)], 1⟩) ?_ (fun hS13 => ?_)
    · skip
      refine anyS_cons T0_ok hP hm hN (by rfl) [4, 7] (by rfl) rfl ?_
      refine ⟨⟨_, rfl, rfl, ?_⟩, ?_⟩
      · skip
        refine g1 ?_
        exact anyS_weak (st' := ⟨[(7, .val (.string (decS a))), (9, .val (.int .i16 b)), (11, .ptr 0 0 2), (15, .sl 1 (i64s xs)), (1, .sl 1 (i64s xs)), (2, .ptr 0 0 0)], [(0, ⟨30, 3, true, [[.val (.int .i16 a), .val (.int .i16 b), .val (.int .i16 c)]]⟩)], 1⟩) (by exact weak_sl (sub_cons rfl (sub_cons rfl (sub_cons rfl (sub_cons rfl (sub_cons rfl (sub_cons rfl (sub_nil)))))))) hS10
      refine ⟨⟨_, rfl, rfl, ?_⟩, trivial⟩
      refine g1 ?_
      exact anyS_weak (st' := ⟨[(7, .val (.string (decS a))), (8, .ptr 0 0 1), (12, .val (.int .i16 c)), (15, .sl 1 (i64s xs)), (1, .sl 1 (i64s xs)), (2, .ptr 0 0 0)], [(0, ⟨30, 3, true, [[.val (.int .i16 a), .val (.int .i16 b), .val (.int .i16 c)]]⟩)], 1⟩) (by exact weak_sl (sub_cons rfl (sub_cons rfl (sub_cons rfl (sub_cons rfl (sub_cons rfl (sub_cons rfl (sub_nil)))))))) hS11
    refine anyS_cut (fuel' := 9) (listed' := #[true, true, false, true, true, false, true, false, false, false, true, false, false, false, false]) (st' := ⟨[(6, .val (.int .i16 a)), (9, .val (.int .i16 b)), (11, .ptr 0 0 2), (15, .sl 1 (i64s xs)), (1, .sl 1 (i64s xs)), (2, .ptr 0 0 0)], [(0, ⟨30, 3, true, [[.val (.int .i16 a), .val (.int .i16 b), .val (.int .i16 c)]]⟩)], 1⟩) ?_ (fun hS14 => ?_)
    · skip
      refine anyS_cons T0_ok hP hm hN (by rfl) [2, 7] (by rfl) rfl ?_
      refine ⟨⟨_, rfl, rfl, ?_⟩, ?_⟩
      · skip
        refine gc1 ?_ (call1 ok_I_dec_int16 _ [] (hpre := by (try dsimp only); exact ⟨by omega, by omega⟩))
        exact anyS_weak (st' := ⟨[(7, .val (.string (decS a))), (9, .val (.int .i16 b)), (11, .ptr 0 0 2), (15, .sl 1 (i64s xs)), (1, .sl 1 (i64s xs)), (2, .ptr 0 0 0)], [(0, ⟨30, 3, true, [[.val (.int .i16 a), .val (.int .i16 b), .val (.int .i16 c)]]⟩)], 1⟩) (by exact weak_sl (sub_cons rfl (sub_cons rfl (sub_cons rfl (sub_cons rfl (sub_cons rfl (sub_cons rfl (sub_nil)))))))) hS10
      refine ⟨⟨_, rfl, rfl, ?_⟩, trivial⟩
      refine g1 ?_
      exact anyS_weak (st' := ⟨[(6, .val (.int .i16 a)), (9, .val (.int .i16 b)), (12, .val (.int .i16 c)), (15, .sl 1 (i64s xs)), (1, .sl 1 (i64s xs)), (2, .ptr 0 0 0)], [(0, ⟨30, 3, true, [[.val (.int .i16 a), .val (.int .i16 b), .val (.int .i16 c)]]⟩)], 1⟩) (by exact weak_sl (sub_cons rfl (sub_cons rfl (sub_cons rfl (sub_cons rfl (sub_cons rfl (sub_cons rfl (sub_nil)))))))) hS12
    refine anyS_cut (fuel' := 9) (listed' := #[true, true, false, true, false, false, true, true, false, false, true, false, false, false, false]) (st' := ⟨[(6, .val (.int .i16 a)), (8, .ptr 0 0 1), (12, .val (.int .i16 c)), (15, .sl 1 (i64s xs)), (1, .sl 1 (i64s xs)), (2, .ptr 0 0 0)], [(0, ⟨30, 3, true, [[.val (.int .i16 a), .val (.int .i16 b), .val (.int .i16 c)]]⟩)], 1⟩) ?_ (fun hS15 => ?_)
    · skip
      refine anyS_cons T0_ok hP hm hN (by rfl) [2, 4] (by rfl) rfl ?_
      refine ⟨⟨_, rfl, rfl, ?_⟩, ?_⟩
      · skip
        refine gc1 ?_ (call1 ok_I_dec_int16 _ [] (hpre := by (try dsimp only); exact ⟨by omega, by omega⟩))
        exact anyS_weak (st' := ⟨[(7, .val (.string (decS a))), (8, .ptr 0 0 1), (12, .val (.int .i16 c)), (15, .sl 1 (i64s xs)), (1, .sl 1 (i64s xs)), (2, .ptr 0 0 0)], [(0, ⟨30, 3, true, [[.val (.int .i16 a), .val (.int .i16 b), .val (.int .i16 c)]]⟩)], 1⟩) (by exact weak_sl (sub_cons rfl (sub_cons rfl (sub_cons rfl (sub_cons rfl (sub_cons rfl (sub_cons rfl (sub_nil)))))))) hS11
      refine ⟨⟨_, rfl, rfl, ?_⟩, trivial⟩
      refine g1 ?_
      exact anyS_weak (st' := ⟨[(6, .val (.int .i16 a)), (9, .val (.int .i16 b)), (12, .val (.int .i16 c)), (15, .sl 1 (i64s xs)), (1, .sl 1 (i64s xs)), (2, .ptr 0 0 0)], [(0, ⟨30, 3, true, [[.val (.int .i16 a), .val (.int .i16 b), .val (.int .i16 c)]]⟩)], 1⟩) (by exact weak_sl (sub_cons rfl (sub_cons rfl (sub_cons rfl (sub_cons rfl (sub_cons rfl (sub_cons rfl (sub_nil)))))))) hS12
    refine anyS_cut (fuel' := 9) (listed' := #[true, false, false, true, true, false, true, true, false, false, true, false, false, false, false]) (st' := ⟨[(5, .ptr 0 0 0), (9, .val (.int .i16 b)), (12, .val (.int .i16 c)), (15, .sl 1 (i64s xs)), (1, .sl 1 (i64s xs)), (2, .ptr 0 0 0)], [(0, ⟨30, 3, true, [[.val (.int .i16 a), .val (.int .i16 b), .val (.int .i16 c)]]⟩)], 1⟩) ?_ (fun hS16 => ?_)
    · skip
      refine anyS_cons T0_ok hP hm hN (by rfl) [1] (by rfl) rfl ?_
      refine ⟨⟨_, rfl, rfl, ?_⟩, trivial⟩
      refine g1 ?_
      exact anyS_weak (st' := ⟨[(6, .val (.int .i16 a)), (9, .val (.int .i16 b)), (12, .val (.int .i16 c)), (15, .sl 1 (i64s xs)), (1, .sl 1 (i64s xs)), (2, .ptr 0 0 0)], [(0, ⟨30, 3, true, [[.val (.int .i16 a), .val (.int .i16 b), .val (.int .i16 c)]]⟩)], 1⟩) (by exact weak_sl (sub_cons rfl (sub_cons rfl (sub_cons rfl (sub_cons rfl (sub_cons rfl (sub_cons rfl (sub_nil)))))))) hS12
    refine anyS_cut (fuel' := 10) (listed' := #[true, true, false, true, false, false, true, false, false, false, true, false, false, false, false]) (st' := ⟨[(6, .val (.int .i16 a)), (8, .ptr 0 0 1), (11, .ptr 0 0 2), (15, .sl 1 (i64s xs)), (1, .sl 1 (i64s xs)), (2, .ptr 0 0 0)], [(0, ⟨30, 3, true, [[.val (.int .i16 a), .val (.int .i16 b), .val (.int .i16 c)]]⟩)], 1⟩) ?_ (fun hS17 => ?_)
    · skip
      refine anyS_cons T0_ok hP hm hN (by rfl) [2, 4, 7] (by rfl) rfl ?_
      refine ⟨⟨_, rfl, rfl, ?_⟩, ?_⟩
      · skip
        refine gc1 ?_ (call1 ok_I_dec_int16 _ [] (hpre := by (try dsimp only); exact ⟨by omega, by omega⟩))
        exact anyS_weak (st' := ⟨[(7, .val (.string (decS a))), (8, .ptr 0 0 1), (11, .ptr 0 0 2), (15, .sl 1 (i64s xs)), (1, .sl 1 (i64s xs)), (2, .ptr 0 0 0)], [(0, ⟨30, 3, true, [[.val (.int .i16 a), .val (.int .i16 b), .val (.int .i16 c)]]⟩)], 1⟩) (by exact weak_sl (sub_cons rfl (sub_cons rfl (sub_cons rfl (sub_cons rfl (sub_cons rfl (sub_cons rfl (sub_nil)))))))) hS13
      refine ⟨⟨_, rfl, rfl, ?_⟩, ?_⟩
      · skip
        refine g1 ?_
        exact anyS_weak (st' := ⟨[(6, .val (.int .i16 a)), (9, .val (.int .i16 b)), (11, .ptr 0 0 2), (15, .sl 1 (i64s xs)), (1, .sl 1 (i64s xs)), (2, .ptr 0 0 0)], [(0, ⟨30, 3, true, [[.val (.int .i16 a), .val (.int .i16 b), .val (.int .i16 c)]]⟩)], 1⟩) (by exact weak_sl (sub_cons rfl (sub_cons rfl (sub_cons rfl (sub_cons rfl (sub_cons rfl (sub_cons rfl (sub_nil)))))))) hS14
      refine ⟨⟨_, rfl, rfl, ?_⟩, trivial⟩
      refine g1 ?_
      exact anyS_weak (st' := ⟨[(6, .val (.int .i16 a)), (8, .ptr 0 0 1), (12, .val (.int .i16 c)), (15, .sl 1 (i64s xs)), (1, .sl 1 (i64s xs)), (2, .ptr 0 0 0)], [(0, ⟨30, 3, true, [[.val (.int .i16 a), .val (.int .i16 b), .val (.int .i16 c)]]⟩)], 1⟩) (by exact weak_sl (sub_cons rfl (sub_cons rfl (sub_cons rfl (sub_cons rfl (sub_cons rfl (sub_cons rfl (sub_nil)))))))) hS15
    refine anyS_cut (fuel' := 10) (listed' := #[true, false, false, true, true, false, true, false, false, false, true, false, false, false, false]) (st' := ⟨[(5, .ptr 0 0 0), (9, .val (.int .i16 b)), (11, .ptr 0 0 2), (15, .sl 1 (i64s xs)), (1, .sl 1 (i64s xs)), (2, .ptr 0 0 0)], [(0, ⟨30, 3, true, [[.val (.int .i16 a), .val (.int .i16 b), .val (.int .i16 c)]]⟩)], 1⟩) ?_ (fun hS18 => ?_)
    · skip
      refine anyS_cons T0_ok hP hm hN (by rfl) [1, 7] (by rfl) rfl ?_
      refine ⟨⟨_, rfl, rfl, ?_⟩, ?_⟩
      · skip
        refine g1 ?_
        exact anyS_weak (st' := ⟨[(6, .val (.int .i16 a)), (9, .val (.int .i16 b)), (11, .ptr 0 0 2), (15, .sl 1 (i64s xs)), (1, .sl 1 (i64s xs)), (2, .ptr 0 0 0)], [(0, ⟨30, 3, true, [[.val (.int .i16 a), .val (.int .i16 b), .val (.int .i16 c)]]⟩)], 1⟩) (by exact weak_sl (sub_cons rfl (sub_cons rfl (sub_cons rfl (sub_cons rfl (sub_cons rfl (sub_cons rfl (sub_nil)))))))) hS14
      refine ⟨⟨_, rfl, rfl, ?_⟩, trivial⟩
      refine g1 ?_
      exact anyS_weak (st' := ⟨[(5, .ptr 0 0 0), (9, .val (.int .i16 b)), (12, .val (.int .i16 c)), (15, .sl 1 (i64s xs)), (1, .sl 1 (i64s xs)), (2, .ptr 0 0 0)], [(0, ⟨30, 3, true, [[.val (.int .i16 a), .val (.int .i16 b), .val (.int .i16 c)]]⟩)], 1⟩) (by exact weak_sl (sub_cons rfl (sub_cons rfl (sub_cons rfl (sub_cons rfl (sub_cons rfl (sub_cons rfl (sub_nil)))))))) hS16
    refine anyS_cut (fuel' := 10) (listed' := #[true, false, false, true, false, false, true, true, false, false, true, false, false, false, false]) (st' := ⟨[(5, .ptr 0 0 0), (8, .ptr 0 0 1), (12, .val (.int .i16 c)), (15, .sl 1 (i64s xs)), (1, .sl 1 (i64s xs)), (2, .ptr 0 0 0)], [(0, ⟨30, 3, true, [[.val (.int .i16 a), .val (.int .i16 b), .val (.int .i16 c)]]⟩)], 1⟩) ?_ (fun hS19 => ?_)
    · skip
      refine anyS_cons T0_ok hP hm hN (by rfl) [1, 4] (by rfl) rfl ?_
      refine ⟨⟨_, rfl, rfl, ?_⟩, ?_⟩
      · skip
        refine g1 ?_
        exact anyS_weak (st' := ⟨[(6, .val (.int .i16 a)), (8, .ptr 0 0 1), (12, .val (.int .i16 c)), (15, .sl 1 (i64s xs)), (1, .sl 1 (i64s xs)), (2, .ptr 0 0 0)], [(0, ⟨30, 3, true, [[.val (.int .i16 a), .val (.int .i16 b), .val (.int .i16 c)]]⟩)], 1⟩) (by exact weak_sl (sub_cons rfl (sub_cons rfl (sub_cons rfl (sub_cons rfl (sub_cons rfl (sub_cons rfl (sub_nil)))))))) hS15
      refine ⟨⟨_, rfl, rfl, ?_⟩, trivial⟩
      refine g1 ?_
      exact anyS_weak (st' := ⟨[(5, .ptr 0 0 0), (9, .val (.int .i16 b)), (12, .val (.int .i16 c)), (15, .sl 1 (i64s xs)), (1, .sl 1 (i64s xs)), (2, .ptr 0 0 0)], [(0, ⟨30, 3, true, [[.val (.int .i16 a), .val (.int .i16 b), .val (.int .i16 c)]]⟩)], 1⟩) (by exact weak_sl (sub_cons rfl (sub_cons rfl (sub_cons rfl (sub_cons rfl (sub_cons rfl (sub_cons rfl (sub_nil)))))))) hS16
    refine anyS_cut (fuel' := 11) (listed' := #[true, false, false, true, false, false, true, false, false, false, true, false, false, false, false]) (st' := ⟨[(5, .ptr 0 0 0), (8, .ptr 0 0 1), (11, .ptr 0 0 2), (15, .sl 1 (i64s xs)), (1, .sl 1 (i64s xs)), (2, .ptr 0 0 0)], [(0, ⟨30, 3, true, [[.val (.int .i16 a), .val (.int .i16 b), .val (.int .i16 c)]]⟩)], 1⟩) ?_ (fun hS20 => ?_)
    · skip
      refine anyS_cons T0_ok hP hm hN (by rfl) [1, 4, 7] (by rfl) rfl ?_
      refine ⟨⟨_, rfl, rfl, ?_⟩, ?_⟩
      · skip
        refine g1 ?_
        exact anyS_weak (st' := ⟨[(6, .val (.int .i16 a)), (8, .ptr 0 0 1), (11, .ptr 0 0 2), (15, .sl 1 (i64s xs)), (1, .sl 1 (i64s xs)), (2, .ptr 0 0 0)], [(0, ⟨30, 3, true, [[.val (.int .i16 a), .val (.int .i16 b), .val (.int .i16 c)]]⟩)], 1⟩) (by exact weak_sl (sub_cons rfl (sub_cons rfl (sub_cons rfl (sub_cons rfl (sub_cons rfl (sub_cons rfl (sub_nil)))))))) hS17
      refine ⟨⟨_, rfl, rfl, ?_⟩, ?_⟩
      · skip
        refine g1 ?_
        exact anyS_weak (st' := ⟨[(5, .ptr 0 0 0), (9, .val (.int .i16 b)), (11, .ptr 0 0 2), (15, .sl 1 (i64s xs)), (1, .sl 1 (i64s xs)), (2, .ptr 0 0 0)], [(0, ⟨30, 3, true, [[.val (.int .i16 a), .val (.int .i16 b), .val (.int .i16 c)]]⟩)], 1⟩) (by exact weak_sl (sub_cons rfl (sub_cons rfl (sub_cons rfl (sub_cons rfl (sub_cons rfl (sub_cons rfl (sub_nil)))))))) hS18
      refine ⟨⟨_, rfl, rfl, ?_⟩, trivial⟩
      refine g1 ?_
      exact anyS_weak (st' := ⟨[(5, .ptr 0 0 0), (8, .ptr 0 0 1), (12, .val (.int .i16 c)), (15, .sl 1 (i64s xs)), (1, .sl 1 (i64s xs)), (2, .ptr 0 0 0)], [(0, ⟨30, 3, true, [[.val (.int .i16 a), .val (.int .i16 b), .val (.int .i16 c)]]⟩)], 1⟩) (by exact weak_sl (sub_cons rfl (sub_cons rfl (sub_cons rfl (sub_cons rfl (sub_cons rfl (sub_cons rfl (sub_nil)))))))) hS19
    refine anyS_floatA T0_ok hP hm hN (by rfl) 0 rfl rfl rfl (by rfl) (by rfl) (by rfl) (by rfl) (by rfl) (by rfl) ?_
    refine g1 ?_
    refine anyS_floatA T0_ok hP hm hN (by rfl) 3 rfl rfl rfl (by rfl) (by rfl) (by rfl) (by rfl) (by rfl) (by rfl) ?_
    refine g1 ?_
    refine anyS_floatA T0_ok hP hm hN (by rfl) 6 rfl rfl rfl (by rfl) (by rfl) (by rfl) (by rfl) (by rfl) (by rfl) ?_
    refine g1 ?_
    refine anyS_float T0_ok hP hm hN (by rfl) 10 rfl rfl rfl (by rfl) (by rfl) (by rfl) ?_
    refine g1 ?_
    exact anyS_weak (st' := ⟨[(5, .ptr 0 0 0), (8, .ptr 0 0 1), (11, .ptr 0 0 2), (15, .sl 1 (i64s xs)), (1, .sl 1 (i64s xs)), (2, .ptr 0 0 0)], [(0, ⟨30, 3, true, [[.val (.int .i16 a), .val (.int .i16 b), .val (.int .i16 c)]]⟩)], 1⟩) (by exact weak_sl (sub_cons rfl (sub_cons rfl (sub_cons rfl (sub_cons rfl (sub_cons rfl (sub_cons rfl (sub_nil)))))))) hS20
  · skip
    refine awp_ret ?_
    refine fin_mk [] rfl rfl ?_ trivial (by decide)
    rfl
end Go.Proofs.YtoincpeodnmfmaaDoor.Abs
