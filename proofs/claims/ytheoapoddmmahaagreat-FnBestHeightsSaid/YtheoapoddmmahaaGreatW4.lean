import Derived.Test.YtheoapoddmmahaaGreatW3
set_option linter.unusedVariables false
set_option linter.unusedSimpArgs false
namespace Go.Proofs.YtheoapoddmmahaaGreat.Abs
open Go Go.RowKit
def isH (a b h : Int) : Bool := inI h a 1000 && ((h - a).tmod b == 0)
noncomputable def validH (a b c : Int) (xs : List Int) : Bool := ((pegsOk a b c && inI xs.length 1 6) && ask (risesP xs)) && xs.all (isH a b)

noncomputable abbrev s_I_within_int : Spec (Int × Int × Int) where
  args := fun x => [.val (.int .i64 x.1), .val (.int .i64 x.2.1), .val (.int .i64 x.2.2)]
  res := fun x => .val (.bool (inI x.1 x.2.1 x.2.2))

set_option maxRecDepth 20000 in
set_option maxHeartbeats 1000000 in
theorem ok_I_within_int : FnOk Pr 77 s_I_within_int := by
 refine fn_ok 3 0 T0_ok Go.Proofs.Tryz.func77 rfl (enters_of Go.Proofs.Tryz.func77 rfl rfl) (fun _ => rfl) (fun _ => rfl) (fun _ => rfl) ?_
 rintro ⟨n, lo, hi⟩ - C hP hN hm hG
 change awp C _ _ ⟨[(0, .val (.int .i64 n)), (1, .val (.int .i64 lo)), (2, .val (.int .i64 hi))], [], 0⟩
 refine awp_seq ?_
 refine r1 T0_ok hP hm hN ?_
 refine g1 ?_
 refine awp_seq ?_
 refine r1 T0_ok hP hm hN ?_
 iterate 4 refine g1 ?_
 iterate 3 refine gg1 ?_
 iterate 2 refine g1 ?_
 refine awp_ret ?_
 refine fin_mk [] rfl rfl ?_ trivial (by decide)
 rfl

noncomputable abbrev s_I_Pegs_isHeight : Spec ((Int × Int × Int) × Int) where
  args := fun x => [pegs x.1, .val (.int .i64 x.2)]
  pre := fun x => isPegs x.1 ∧ pegsOk x.1.1 x.1.2.1 x.1.2.2 = true
  res := fun x => .val (.bool (isH x.1.1 x.1.2.1 x.2))

set_option maxRecDepth 20000 in
set_option maxHeartbeats 1000000 in
theorem ok_I_Pegs_isHeight : FnOk Pr 80 s_I_Pegs_isHeight := by
 refine fn_ok 2 0 T0_ok Go.Proofs.Tryz.func80 rfl (enters_of Go.Proofs.Tryz.func80 rfl rfl) (fun _ => rfl) (fun _ => rfl) (fun _ => rfl) ?_
 rintro ⟨⟨a, b, c⟩, high⟩ ⟨hp, hok⟩ C hP hN hm hG
 change awp C _ _ ⟨[(0, .val (.agg #[.int .i16 a, .int .i16 b, .int .i16 c])), (1, .val (.int .i64 high))], [], 0⟩
 simp only at hp hok
 rw [pegsOk_iff] at hok
 obtain ⟨ha, hb', hc⟩ := hok
 refine awp_seq ?_
 refine r1 T0_ok hP hm hN ?_
 refine g1 ?_ (hpre := by first | trivial | exact (show b ≠ 0 by omega) | omega)
 refine g1 ?_ (hpre := by first | trivial | exact (show b ≠ 0 by omega) | omega)
 refine awp_seq ?_
 refine r1 T0_ok hP hm hN ?_
 refine g1 ?_ (hpre := by first | trivial | exact (show b ≠ 0 by omega) | omega)
 refine g1 ?_ (hpre := by first | trivial | exact (show b ≠ 0 by omega) | omega)
 refine g1 ?_ (hpre := by first | trivial | exact (show b ≠ 0 by omega) | omega)
 refine g1 ?_ (hpre := by first | trivial | exact (show b ≠ 0 by omega) | omega)
 refine gc1 ?_ (call1 ok_I_within_int64 (_, _, _) [])
 refine g1 ?_ (hpre := by first | trivial | exact (show b ≠ 0 by omega) | omega)
 refine gg1 ?_ (hs := by intro hb; simp +decide only [hb, gd_tt, gd_ff, beq_self_eq_true, Bool.true_and, beq_true]; exact ⟨_, by first | rfl | exact astep_load_r (by rfl) (by rfl) (by exact i64s_get _ _ (by omega)) (by rfl) | exact astep_load_r (by rfl) (by rfl) (by first | exact bks_get _ _ (by omega) | exact pls_get _ _ (by omega) | exact ints_get _ _ _ (by omega) | exact boolD_get _ _ (by omega) | exact i64ss_get _ _ (by omega) | assumption) (by rfl) | exact astep_store_p (by rfl) (by rfl) (by rfl) (by rfl) (by exact i64s_get _ _ (by omega)), by first | trivial | exact (show b ≠ 0 by omega) | omega⟩)
 refine gg1 ?_ (hs := by intro hb; simp +decide only [hb, gd_tt, gd_ff, beq_self_eq_true, Bool.true_and, beq_true]; exact ⟨_, by first | rfl | exact astep_load_r (by rfl) (by rfl) (by exact i64s_get _ _ (by omega)) (by rfl) | exact astep_load_r (by rfl) (by rfl) (by first | exact bks_get _ _ (by omega) | exact pls_get _ _ (by omega) | exact ints_get _ _ _ (by omega) | exact boolD_get _ _ (by omega) | exact i64ss_get _ _ (by omega) | assumption) (by rfl) | exact astep_store_p (by rfl) (by rfl) (by rfl) (by rfl) (by exact i64s_get _ _ (by omega)), by first | trivial | exact (show b ≠ 0 by omega) | omega⟩)
 refine gg1 ?_ (hs := by intro hb; simp +decide only [hb, gd_tt, gd_ff, beq_self_eq_true, Bool.true_and, beq_true]; exact ⟨_, by first | rfl | exact astep_load_r (by rfl) (by rfl) (by exact i64s_get _ _ (by omega)) (by rfl) | exact astep_load_r (by rfl) (by rfl) (by first | exact bks_get _ _ (by omega) | exact pls_get _ _ (by omega) | exact ints_get _ _ _ (by omega) | exact boolD_get _ _ (by omega) | exact i64ss_get _ _ (by omega) | assumption) (by rfl) | exact astep_store_p (by rfl) (by rfl) (by rfl) (by rfl) (by exact i64s_get _ _ (by omega)), by first | trivial | exact (show b ≠ 0 by omega) | omega⟩)
 refine gg1 ?_ (hs := by intro hb; simp +decide only [hb, gd_tt, gd_ff, beq_self_eq_true, Bool.true_and, beq_true]; exact ⟨_, by first | rfl | exact astep_load_r (by rfl) (by rfl) (by exact i64s_get _ _ (by omega)) (by rfl) | exact astep_load_r (by rfl) (by rfl) (by first | exact bks_get _ _ (by omega) | exact pls_get _ _ (by omega) | exact ints_get _ _ _ (by omega) | exact boolD_get _ _ (by omega) | exact i64ss_get _ _ (by omega) | assumption) (by rfl) | exact astep_store_p (by rfl) (by rfl) (by rfl) (by rfl) (by exact i64s_get _ _ (by omega)), by first | trivial | exact (show b ≠ 0 by omega) | omega⟩)
 refine gg1 ?_ (hs := by intro hb; simp +decide only [hb, gd_tt, gd_ff, beq_self_eq_true, Bool.true_and, beq_true]; exact ⟨_, by first | rfl | exact astep_load_r (by rfl) (by rfl) (by exact i64s_get _ _ (by omega)) (by rfl) | exact astep_load_r (by rfl) (by rfl) (by first | exact bks_get _ _ (by omega) | exact pls_get _ _ (by omega) | exact ints_get _ _ _ (by omega) | exact boolD_get _ _ (by omega) | exact i64ss_get _ _ (by omega) | assumption) (by rfl) | exact astep_store_p (by rfl) (by rfl) (by rfl) (by rfl) (by exact i64s_get _ _ (by omega)), by first | trivial | exact (show b ≠ 0 by omega) | omega⟩)
 refine gg1 ?_ (hs := by intro hb; simp +decide only [hb, gd_tt, gd_ff, beq_self_eq_true, Bool.true_and, beq_true]; exact ⟨_, by first | rfl | exact astep_load_r (by rfl) (by rfl) (by exact i64s_get _ _ (by omega)) (by rfl) | exact astep_load_r (by rfl) (by rfl) (by first | exact bks_get _ _ (by omega) | exact pls_get _ _ (by omega) | exact ints_get _ _ _ (by omega) | exact boolD_get _ _ (by omega) | exact i64ss_get _ _ (by omega) | assumption) (by rfl) | exact astep_store_p (by rfl) (by rfl) (by rfl) (by rfl) (by exact i64s_get _ _ (by omega)), by first | trivial | exact (show b ≠ 0 by omega) | omega⟩)
 refine gg1 ?_ (hs := by intro hb; simp +decide only [hb, gd_tt, gd_ff, beq_self_eq_true, Bool.true_and, beq_true]; exact ⟨_, by first | rfl | exact astep_load_r (by rfl) (by rfl) (by exact i64s_get _ _ (by omega)) (by rfl) | exact astep_load_r (by rfl) (by rfl) (by first | exact bks_get _ _ (by omega) | exact pls_get _ _ (by omega) | exact ints_get _ _ _ (by omega) | exact boolD_get _ _ (by omega) | exact i64ss_get _ _ (by omega) | assumption) (by rfl) | exact astep_store_p (by rfl) (by rfl) (by rfl) (by rfl) (by exact i64s_get _ _ (by omega)), by first | trivial | exact (show b ≠ 0 by omega) | omega⟩)
 refine gg1 ?_ (hs := by intro hb; simp +decide only [hb, gd_tt, gd_ff, beq_self_eq_true, Bool.true_and, beq_true]; exact ⟨_, by first | rfl | exact astep_load_r (by rfl) (by rfl) (by exact i64s_get _ _ (by omega)) (by rfl) | exact astep_load_r (by rfl) (by rfl) (by first | exact bks_get _ _ (by omega) | exact pls_get _ _ (by omega) | exact ints_get _ _ _ (by omega) | exact boolD_get _ _ (by omega) | exact i64ss_get _ _ (by omega) | assumption) (by rfl) | exact astep_store_p (by rfl) (by rfl) (by rfl) (by rfl) (by exact i64s_get _ _ (by omega)), by first | trivial | exact (show b ≠ 0 by omega) | omega⟩)
 refine gg1 ?_ (hs := by intro hb; simp +decide only [hb, gd_tt, gd_ff, beq_self_eq_true, Bool.true_and, beq_true]; exact ⟨_, by first | rfl | exact astep_load_r (by rfl) (by rfl) (by exact i64s_get _ _ (by omega)) (by rfl) | exact astep_load_r (by rfl) (by rfl) (by first | exact bks_get _ _ (by omega) | exact pls_get _ _ (by omega) | exact ints_get _ _ _ (by omega) | exact boolD_get _ _ (by omega) | exact i64ss_get _ _ (by omega) | assumption) (by rfl) | exact astep_store_p (by rfl) (by rfl) (by rfl) (by rfl) (by exact i64s_get _ _ (by omega)), by first | trivial | exact (show b ≠ 0 by omega) | omega⟩)
 refine gg1 ?_ (hs := by intro hb; simp +decide only [hb, gd_tt, gd_ff, beq_self_eq_true, Bool.true_and, beq_true]; exact ⟨_, by first | rfl | exact astep_load_r (by rfl) (by rfl) (by exact i64s_get _ _ (by omega)) (by rfl) | exact astep_load_r (by rfl) (by rfl) (by first | exact bks_get _ _ (by omega) | exact pls_get _ _ (by omega) | exact ints_get _ _ _ (by omega) | exact boolD_get _ _ (by omega) | exact i64ss_get _ _ (by omega) | assumption) (by rfl) | exact astep_store_p (by rfl) (by rfl) (by rfl) (by rfl) (by exact i64s_get _ _ (by omega)), by first | trivial | exact (show b ≠ 0 by omega) | omega⟩)
 refine g1 ?_ (hpre := by first | trivial | exact (show b ≠ 0 by omega) | omega)
 refine g1 ?_ (hpre := by first | trivial | exact (show b ≠ 0 by omega) | omega)
 refine awp_ret ?_
 refine fin_mk [] rfl rfl ?_ trivial (by decide)
 show D.val (.bool (isH a b high)) = D.val (.bool (inI high a 1000 && ((IntKind.i64.wrap (high - a)).tmod b == 0)))
 unfold isH
 cases h : inI high a 1000 with
 | false => rfl
 | true =>
   rw [inI_iff] at h
   rw [wI64 (by omega) (by omega)]

theorem asks_isH {a b c : Int} (hp : isPegs (a, b, c)) (hok : pegsOk a b c = true) (dom : Int → Prop) : Says i64D dom (isH a b) (.val (.func (.func 80) #[.agg #[.int .i16 a, .int .i16 b, .int .i16 c]] #[])) :=
  ⟨80, [pegs (a, b, c)], [], s_I_Pegs_isHeight.comap (fun n => ((a, b, c), n)), rfl, rfl, rfl, ok_I_Pegs_isHeight.comap _, fun _ => rfl, fun _ _ => ⟨hp, hok⟩, fun _ => rfl, fun _ => rfl, fun _ => rfl, fun _ => rfl⟩
theorem ok_of_and {x y z : Bool} (h : ((x && y) && z) = true) : x = true := by cases x <;> simp_all

noncomputable abbrev s_I_ValidHeights : Spec ((Int × Int × Int) × List Int) where
  args := fun x => [pegs x.1, .sl 1 (i64s x.2)]
  pre := fun x => isPegs x.1 ∧ x.2.length ≤ 9223372036854775807
  res := fun x => .val (.bool (validH x.1.1 x.1.2.1 x.1.2.2 x.2))

set_option maxRecDepth 20000 in
set_option maxHeartbeats 1000000 in
theorem ok_I_ValidHeights : FnOk Pr 41 s_I_ValidHeights := by
 refine fn_ok 2 0 T0_ok Go.Proofs.Tryz.func41 rfl (enters_of Go.Proofs.Tryz.func41 rfl rfl) (fun _ => rfl) (fun _ => rfl) (fun _ => rfl) ?_
 rintro ⟨⟨a, b, c⟩, xs⟩ ⟨hp, hl⟩ C hP hN hm hG
 change awp C _ _ ⟨[(0, .val (.agg #[.int .i16 a, .int .i16 b, .int .i16 c])), (1, .sl 1 (i64s xs))], [], 0⟩
 simp only at hl
 refine awp_seq ?_
 refine r1 T0_ok hP hm hN ?_
 iterate 2 refine g1 ?_
 refine awp_seq ?_
 refine r1 T0_ok hP hm hN ?_
 refine g1 ?_
 refine gc1 ?_ (call1 ok_I_ValidPegs (_, _, _) [] (hpre := by (try dsimp only); first | trivial | exact ⟨ha, hb, hc⟩ | exact hp | assumption))
 refine g1 ?_
 iterate 2 refine gg1 ?_
 refine ggc1 ?_ (hs := by intro hb; simp +decide only [hb, gd_tt, gd_ff, beq_self_eq_true, Bool.true_and, beq_true]; exact ⟨rfl, _, call1 ok_I_within_int (_, _, _) [], rfl, rfl, rfl⟩)
 iterate 2 refine g1 ?_
 refine gg1 ?_
 refine ggc1 ?_ (hs := by intro hb; simp +decide only [hb, gd_tt, gd_ff, beq_self_eq_true, Bool.true_and, beq_true]; exact ⟨rfl, _, call1 ok_I_rises _ [] (hpre := by (try dsimp only); first | exact hl | trivial | omega), rfl, rfl, rfl⟩)
 iterate 2 refine g1 ?_
 iterate 3 refine gg1 ?_
 refine ggc1 ?_ (hs := by intro hb; simp +decide only [hb, gd_tt, gd_ff, beq_self_eq_true, Bool.true_and, beq_true]; exact ⟨rfl, _, call1 ok_I_areAll_int64 (_, _, isH a b) [] (hpre := by (try dsimp only); exact ⟨hl, rfl, asks_isH hp (ok_of_and hb) _⟩), rfl, rfl, rfl⟩)
 iterate 2 refine g1 ?_
 refine awp_ret ?_
 refine fin_mk [] rfl rfl ?_ trivial (by decide)
 rfl

def elemOk (a b : Int) (xs : List Int) (i : Nat) : Prop := (0 ≤ xs.getD i 0 ∧ xs.getD i 0 ≤ 1000) ∧ pegH a b (xs.getD i 0) = xs.getD i 0 ∧ (0 < i → xs.getD (i - 1) 0 < xs.getD i 0)
noncomputable def okH (a b c : Int) (xs : List Int) : Bool := (pegsOk a b c && inI xs.length 1 6) && ask (∀ i, i < xs.length → elemOk a b xs i)
theorem elem_eq {a b : Int} {xs : List Int} {i : Nat} : elemOk a b xs i ↔ (!inI (xs.getD i 0) 0 1000 || pegH a b (xs.getD i 0) != xs.getD i 0 || decide ((i : Int) > 0) && decide (xs.getD i 0 ≤ xs.getD ((i : Int) - 1).toNat 0)) = false := by
  have e : ((i : Int) - 1).toNat = i - 1 := by omega
  rw [e]
  simp only [elemOk, Bool.or_eq_false_iff, Bool.and_eq_false_iff, Bool.not_eq_false', inI_iff, decide_eq_false_iff_not, bne_eq_false_iff_eq, and_assoc]
  constructor
  · rintro ⟨h1, h2, h3, h4⟩
    refine ⟨h1, h2, h3, ?_⟩
    by_cases h : 0 < i
    · have := h4 h; omega
    · omega
  · rintro ⟨h1, h2, h3, h4⟩
    exact ⟨h1, h2, h3, fun h => by omega⟩

noncomputable abbrev s_S_l04Ok : Spec ((Int × Int × Int) × List Int) where
  args := fun x => [pegs x.1, .sl 1 (i64s x.2)]
  pre := fun x => isPegs x.1 ∧ x.2.length ≤ 9223372036854775807
  res := fun x => .val (.bool (okH x.1.1 x.1.2.1 x.1.2.2 x.2))

set_option maxRecDepth 20000 in
set_option maxHeartbeats 1000000 in
theorem ok_S_l04Ok : FnOk Pr 85 s_S_l04Ok := by
 refine fn_ok 2 0 T0_ok Go.Proofs.Tryz.func85 rfl (enters_of Go.Proofs.Tryz.func85 rfl rfl) (fun _ => rfl) (fun _ => rfl) (fun _ => rfl) ?_
 rintro ⟨⟨a, b, c⟩, xs⟩ ⟨hp, hl⟩ C hP hN hm hG
 change awp C _ _ ⟨[(0, .val (.agg #[.int .i16 a, .int .i16 b, .int .i16 c])), (1, .sl 1 (i64s xs))], [], 0⟩
 simp only at hl
 refine awp_seq ?_
 refine r1 T0_ok hP hm hN ?_
 iterate 2 refine g1 ?_
 refine awp_seq ?_
 refine awp_seq ?_
 refine r1 T0_ok hP hm hN ?_
 refine g1 ?_
 refine gc1 ?_ (call1 ok_S_l04Pegs (_, _, _) [] (hpre := by (try dsimp only); first | trivial | exact ⟨ha, hb, hc⟩ | exact hp | assumption))
 iterate 2 refine g1 ?_
 iterate 2 refine gg1 ?_
 refine ggc1 ?_ (hs := by intro hb; simp +decide only [hb, gd_tt, gd_ff, beq_self_eq_true, Bool.true_and, beq_true]; exact ⟨rfl, _, call1 ok_S_l00In (_, _, _) [], rfl, rfl, rfl⟩)
 refine gg1 ?_
 refine g1 ?_
 refine awp_cond rfl (fun hc0 => ?_) (fun hc0 => ?_)
 ·
  refine awp_seq ?_
  refine r1 T0_ok hP hm hN ?_
  refine g1 ?_
  refine awp_ret ?_
  refine fin_mk [] rfl rfl ?_ trivial (by decide)
  show D.val (.bool (okH a b c xs)) = D.val (.bool false)
  have : (pegsOk a b c && inI xs.length 1 6) = false := by cases h : pegsOk a b c <;> simp_all
  rw [okH, this, Bool.false_and]
 ·
  refine awp_skip ?_
  refine awp_seq ?_
  refine awp_seq ?_
  refine r1 T0_ok hP hm hN ?_
  refine g1 ?_
  refine awp_block ?_
  have hpk : (!pegsOk a b c) = false := by simp at hc0; simp [hc0.1]
  have hin : inI xs.length 1 6 = true := by simp at hc0; simp [hc0.2]
  refine awp_loop (fun n st => ∃ i : Nat, i ≤ xs.length ∧ (∀ j, j < i → elemOk a b xs j) ∧ n = xs.length - i ∧ st = ⟨[(5, .val (.int .i64 (i : Int))), (2, .ptr 0 0 0), (1, .sl 1 (i64s xs))], [(0, ⟨26, 3, true, [[.val (.int .i16 a), .val (.int .i16 b), .val (.int .i16 c)]]⟩)], 1⟩) xs.length ⟨_, weak_sl (sub_cons rfl (sub_cons rfl (sub_cons rfl sub_nil))), 0, by omega, fun j h1 => by omega, rfl, rfl⟩ ?_
  rintro n st ⟨i, hi, hall, hn, rfl⟩
  refine awp_seq ?_
  refine awp_seq ?_
  refine r1 T0_ok hP hm hN ?_
  iterate 4 refine g1 ?_
  refine awp_cond rfl (fun hc1 => ?_) (fun hc1 => ?_)
  ·
   have hlt : i < xs.length := by simpa using hc1
   refine awp_skip ?_
   refine awp_seq ?_
   refine awp_block ?_
   refine awp_seq ?_
   refine awp_draw T0_ok hP hm hN Pr_mix [0, 1, 2, 3, 4, 5, 6, 7, 8, 9, 10, 11] [4, 12] _ rfl (by rfl) ?_
   iterate 4 refine d1 T0_ok ?_
   refine dp1 ?_ (call1 ok_S_l00In (_, _, _) [])
   iterate 2 refine d1 T0_ok ?_
   iterate 5 refine dg1 T0_ok ?_
   refine dgp1 ?_ (hr := by intro hb; simp +decide only [hb, gd_tt, gd_ff, beq_self_eq_true, Bool.true_and, beq_true]; exact ⟨_, call1 ok_S_l04Peg ((_, _, _), _) [] (hpre := by (try dsimp only); exact pegpre hpk hb), rfl, rfl, rfl⟩)
   iterate 5 refine dg1 T0_ok ?_
   iterate 2 refine d1 T0_ok ?_
   iterate 3 refine dg1 T0_ok ?_
   iterate 7 refine dgg1 T0_ok ?_
   refine dgg1 T0_ok ?_ (hs := by intro he hb; simp +decide only [he, hb, gd_tt, gd_ff, beq_self_eq_true, Bool.true_and, beq_true]; exact ⟨_, by first | rfl | exact astep_load_r (by rfl) (by rfl) (by exact i64s_get _ _ (by omega)) (by rfl) | exact astep_load_r (by rfl) (by rfl) (by first | exact bks_get _ _ (by omega) | exact pls_get _ _ (by omega) | exact ints_get _ _ _ (by omega) | exact boolD_get _ _ (by omega) | exact i64ss_get _ _ (by omega) | assumption) (by rfl) | exact astep_store_p (by rfl) (by rfl) (by rfl) (by rfl) (by exact i64s_get _ _ (by omega)), by exact ⟨rfl, (by simp at hb; omega), (by simp only [List.length_map]; omega)⟩⟩)
   iterate 2 refine dgg1 T0_ok ?_
   refine dg1 T0_ok ?_
   refine d1 T0_ok ?_
   refine dreg_nil ?_
   refine awp_cond rfl (fun hc2 => ?_) (fun hc2 => ?_)
   ·
    refine awp_seq ?_
    refine r1 T0_ok hP hm hN ?_
    refine g1 ?_
    refine awp_ret ?_
    refine fin_mk [] rfl rfl ?_ trivial (by decide)
    have hno : ¬ elemOk a b xs i := fun h => Bool.noConfusion ((elem_eq.1 h).symm.trans hc2)
    show D.val (.bool (okH a b c xs)) = D.val (.bool false)
    rw [okH, ask_false (fun h => hno (h i hlt)), Bool.and_false]
   ·
    refine awp_skip ?_
    refine r1 T0_ok hP hm hN ?_
    iterate 3 refine g1 ?_
    have hok := elem_eq.2 hc2
    refine ⟨xs.length - (i + 1), _, by omega, weak_sl (sub_cons rfl (sub_cons rfl (sub_cons rfl sub_nil))), i + 1, by omega, fun j h1 => ?_, rfl, rfl⟩
    by_cases e : j = i
    · rw [e]; exact hok
    · exact hall j (by omega)
  ·
   have hge : ¬ i < xs.length := by simpa using hc1
   refine awp_exit ?_
   repeat refine thenA_exit ?_
   refine blockA_hit ?_
   refine awp_seq ?_
   refine r1 T0_ok hP hm hN ?_
   refine g1 ?_
   refine awp_ret ?_
   refine fin_mk [] rfl rfl ?_ trivial (by decide)
   have hyes : ∀ j, j < xs.length → elemOk a b xs j := fun j hj => hall j (by omega)
   show D.val (.bool (okH a b c xs)) = D.val (.bool true)
   rw [okH, ask_true hyes, hin]
   simp at hpk
   rw [hpk]; rfl


theorem pegH_fix {a b x : Int} (hb : 1 ≤ b) : pegH a b x = x ↔ a ≤ x ∧ (x - a).tmod b = 0 := by
  have hq := pegH_q (a := a) (high := x) hb
  have hB := pegH_bounds (a := a) (high := x) hb
  constructor
  · intro h
    have ha : a ≤ x := by omega
    refine ⟨ha, ?_⟩
    rw [Int.tmod_eq_emod_of_nonneg (by omega)]
    unfold pegH at h
    have : x - a = (max (x - a) 0 + b - 1) / b * b := by omega
    rw [this]
    exact Int.mul_emod_left _ _
  · rintro ⟨ha, hm⟩
    rw [Int.tmod_eq_emod_of_nonneg (by omega)] at hm
    unfold pegH
    have hmax : max (x - a) 0 = x - a := by omega
    rw [hmax]
    have h1 := Int.emod_add_mul_ediv (x - a) b
    rw [hm] at h1
    have h2 : x - a + b - 1 = (b - 1) + (x - a) / b * b := by rw [Int.mul_comm]; omega
    have h3 : (x - a + b - 1) / b = (x - a) / b := by
      rw [h2, Int.add_mul_ediv_right _ _ (by omega), Int.ediv_eq_zero_of_lt (by omega) (by omega)]; omega
    rw [h3, Int.mul_comm]; omega
theorem okH_validH {a b c : Int} {xs : List Int} : okH a b c xs = validH a b c xs := by
  unfold okH validH
  cases hp : pegsOk a b c && inI xs.length 1 6 with
  | false => rfl
  | true =>
    have hp1 : pegsOk a b c = true := by simp at hp; exact hp.1
    rw [pegsOk_iff] at hp1
    simp only [Bool.true_and]
    rw [Bool.eq_iff_iff, Bool.and_eq_true, ask_iff, ask_iff, List.all_eq_true]
    constructor
    · intro h
      refine ⟨fun j hj => by have := (h (j + 1) hj).2.2 (by omega); simpa using this, fun x hx => ?_⟩
      obtain ⟨i, hi, rfl⟩ := List.getElem_of_mem hx
      have := h i hi
      rw [show xs[i] = xs.getD i 0 by simp [List.getD, hi]]
      have hf := (pegH_fix hp1.2.1.1).1 this.2.1
      simp only [isH, Bool.and_eq_true, inI_iff, beq_iff_eq]
      exact ⟨⟨hf.1, this.1.2⟩, hf.2⟩
    · rintro ⟨hr, ha⟩ i hi
      have hx := ha _ (getD_mem hi)
      simp only [isH, Bool.and_eq_true, inI_iff, beq_iff_eq] at hx
      refine ⟨⟨by omega, hx.1.2⟩, (pegH_fix hp1.2.1.1).2 ⟨hx.1.1, hx.2⟩, fun h => ?_⟩
      have := hr (i - 1) (by omega)
      rwa [show i - 1 + 1 = i by omega] at this

end Go.Proofs.YtheoapoddmmahaaGreat.Abs

