import Derived.Test.YtbgapcmdigcejaaDoorW3
set_option linter.unusedVariables false
set_option linter.unusedSimpArgs false
namespace Go.Proofs.YtbgapcmdigcejaaDoor.Abs
open Go Go.RowKit
def isH (a b h : Int) : Bool := inI h a 1000 && ((h - a).tmod b == 0)
abbrev I64s (xs : List Int) : Prop := ∀ n ∈ xs, -9223372036854775808 ≤ n ∧ n ≤ 9223372036854775807
noncomputable def validH (a b c : Int) (xs : List Int) : Bool := ((pegsOk a b c && inI xs.length 1 6) && ask (risesP xs)) && xs.all (isH a b)

noncomputable abbrev s_I_within_int : Spec (Int × Int × Int) where
  args := fun x => [.val (.int .i64 x.1), .val (.int .i64 x.2.1), .val (.int .i64 x.2.2)]
  res := fun x => .val (.bool (inI x.1 x.2.1 x.2.2))

set_option maxRecDepth 20000 in
set_option maxHeartbeats 1000000 in
theorem ok_I_within_int : FnOk Pr 36 s_I_within_int := by
  refine fn_ok 3 0 T0_ok Go.Proofs.Tryd.func36 rfl (enters_of Go.Proofs.Tryd.func36 rfl rfl) (fun _ => rfl) (fun _ => rfl) (fun _ => rfl) ?_
  rintro ⟨n, lo, hi⟩ - C hP hN hm hG
  change awp C _ _ ⟨[(0, .val (.int .i64 n)), (1, .val (.int .i64 lo)), (2, .val (.int .i64 hi))], [], 0⟩
  refine awp_seq ?_
  refine r1 T0_ok hP hm hN ?_
  refine g1 ?_
  refine awp_seq ?_
  refine r1 T0_ok hP hm hN ?_
  refine g1 ?_
  refine g1 ?_
  refine g1 ?_
  refine g1 ?_
  refine gg1 ?_
  refine gg1 ?_
  refine gg1 ?_
  refine g1 ?_
  refine g1 ?_
  refine awp_ret ?_
  refine fin_mk [] rfl rfl ?_ trivial (by decide)
  rfl

noncomputable abbrev s_I_Pegs_isHeight : Spec ((Int × Int × Int) × Int) where
  args := fun x => [pegs x.1, .val (.int .i64 x.2)]
  pre := fun x => isPegs x.1 ∧ pegsOk x.1.1 x.1.2.1 x.1.2.2 = true
  res := fun x => .val (.bool (isH x.1.1 x.1.2.1 x.2))

set_option maxRecDepth 20000 in
set_option maxHeartbeats 1000000 in
theorem ok_I_Pegs_isHeight : FnOk Pr 39 s_I_Pegs_isHeight := by
  refine fn_ok 2 0 T0_ok Go.Proofs.Tryd.func39 rfl (enters_of Go.Proofs.Tryd.func39 rfl rfl) (fun _ => rfl) (fun _ => rfl) (fun _ => rfl) ?_
  rintro ⟨⟨a, b, c⟩, high⟩ ⟨hp, hok⟩ C hP hN hm hG
  change awp C _ _ ⟨[(0, .val (.agg #[.int .i16 a, .int .i16 b, .int .i16 c])), (1, .val (.int .i64 high))], [], 0⟩
  simp only at hp hok
  rw [pegsOk_iff] at hok
  obtain ⟨ha, hb', hc⟩ := hok
  refine awp_seq ?_
  refine r1 T0_ok hP hm hN ?_
  refine g1 ?_ (hpre := by first | trivial | exact (show b ≠ 0 by omega) | omega)
  refine g1 ?_ (hpre := by first | trivial | exact (show b ≠ 0 by omega) | omega)
  refine awp_seq ?_
  refine r1 T0_ok hP hm hN ?_
  refine g1 ?_ (hpre := by first | trivial | exact (show b ≠ 0 by omega) | omega)
  refine g1 ?_ (hpre := by first | trivial | exact (show b ≠ 0 by omega) | omega)
  refine g1 ?_ (hpre := by first | trivial | exact (show b ≠ 0 by omega) | omega)
  refine g1 ?_ (hpre := by first | trivial | exact (show b ≠ 0 by omega) | omega)
  refine gc1 ?_ (call1 ok_I_within_int64 (_, _, _) [])
  refine g1 ?_ (hpre := by first | trivial | exact (show b ≠ 0 by omega) | omega)
  refine gg1 ?_ (hs := by intro hb; simp +decide only [hb, gd_tt, gd_ff, beq_self_eq_true, Bool.true_and, beq_true]; exact ⟨_, by first | rfl | exact astep_load_r (by rfl) (by rfl) (by exact i64s_get _ _ (by omega)) (by rfl) | exact astep_load_r (by rfl) (by rfl) (by first | exact bks_get _ _ (by omega) | exact pls_get _ _ (by omega) | exact ints_get _ _ _ (by omega) | exact boolD_get _ _ (by omega) | exact i64ss_get _ _ (by omega) | assumption) (by rfl) | exact astep_store_p (by rfl) (by rfl) (by rfl) (by rfl) (by exact i64s_get _ _ (by omega)), by first | trivial | exact (show b ≠ 0 by omega) | omega⟩)
  refine gg1 ?_ (hs := by intro hb; simp +decide only [hb, gd_tt, gd_ff, beq_self_eq_true, Bool.true_and, beq_true]; exact ⟨_, by first | rfl | exact astep_load_r (by rfl) (by rfl) (by exact i64s_get _ _ (by omega)) (by rfl) | exact astep_load_r (by rfl) (by rfl) (by first | exact bks_get _ _ (by omega) | exact pls_get _ _ (by omega) | exact ints_get _ _ _ (by omega) | exact boolD_get _ _ (by omega) | exact i64ss_get _ _ (by omega) | assumption) (by rfl) | exact astep_store_p (by rfl) (by rfl) (by rfl) (by rfl) (by exact i64s_get _ _ (by omega)), by first | trivial | exact (show b ≠ 0 by omega) | omega⟩)
  refine gg1 ?_ (hs := by intro hb; simp +decide only [hb, gd_tt, gd_ff, beq_self_eq_true, Bool.true_and, beq_true]; exact ⟨_, by first | rfl | exact astep_load_r (by rfl) (by rfl) (by exact i64s_get _ _ (by omega)) (by rfl) | exact astep_load_r (by rfl) (by rfl) (by first | exact bks_get _ _ (by omega) | exact pls_get _ _ (by omega) | exact ints_get _ _ _ (by omega) | exact boolD_get _ _ (by omega) | exact i64ss_get _ _ (by omega) | assumption) (by rfl) | exact astep_store_p (by rfl) (by rfl) (by rfl) (by rfl) (by exact i64s_get _ _ (by omega)), by first | trivial | exact (show b ≠ 0 by omega) | omega⟩)
  refine gg1 ?_ (hs := by intro hb; simp +decide only [hb, gd_tt, gd_ff, beq_self_eq_true, Bool.true_and, beq_true]; exact ⟨_, by first | rfl | exact astep_load_r (by rfl) (by rfl) (by exact i64s_get _ _ (by omega)) (by rfl) | exact astep_load_r (by rfl) (by rfl) (by first | exact bks_get _ _ (by omega) | exact pls_get _ _ (by omega) | exact ints_get _ _ _ (by omega) | exact boolD_get _ _ (by omega) | exact i64ss_get _ _ (by omega) | assumption) (by rfl) | exact astep_store_p (by rfl) (by rfl) (by rfl) (by rfl) (by exact i64s_get _ _ (by omega)), by first | trivial | exact (show b ≠ 0 by omega) | omega⟩)
  refine gg1 ?_ (hs := by intro hb; simp +decide only [hb, gd_tt, gd_ff, beq_self_eq_true, Bool.true_and, beq_true]; exact ⟨_, by first | rfl | exact astep_load_r (by rfl) (by rfl) (by exact i64s_get _ _ (by omega)) (by rfl) | exact astep_load_r (by rfl) (by rfl) (by first | exact bks_get _ _ (by omega) | exact pls_get _ _ (by omega) | exact ints_get _ _ _ (by omega) | exact boolD_get _ _ (by omega) | exact i64ss_get _ _ (by omega) | assumption) (by rfl) | exact astep_store_p (by rfl) (by rfl) (by rfl) (by rfl) (by exact i64s_get _ _ (by omega)), by first | trivial | exact (show b ≠ 0 by omega) | omega⟩)
  refine gg1 ?_ (hs := by intro hb; simp +decide only [hb, gd_tt, gd_ff, beq_self_eq_true, Bool.true_and, beq_true]; exact ⟨_, by first | rfl | exact astep_load_r (by rfl) (by rfl) (by exact i64s_get _ _ (by omega)) (by rfl) | exact astep_load_r (by rfl) (by rfl) (by first | exact bks_get _ _ (by omega) | exact pls_get _ _ (by omega) | exact ints_get _ _ _ (by omega) | exact boolD_get _ _ (by omega) | exact i64ss_get _ _ (by omega) | assumption) (by rfl) | exact astep_store_p (by rfl) (by rfl) (by rfl) (by rfl) (by exact i64s_get _ _ (by omega)), by first | trivial | exact (show b ≠ 0 by omega) | omega⟩)
  refine gg1 ?_ (hs := by intro hb; simp +decide only [hb, gd_tt, gd_ff, beq_self_eq_true, Bool.true_and, beq_true]; exact ⟨_, by first | rfl | exact astep_load_r (by rfl) (by rfl) (by exact i64s_get _ _ (by omega)) (by rfl) | exact astep_load_r (by rfl) (by rfl) (by first | exact bks_get _ _ (by omega) | exact pls_get _ _ (by omega) | exact ints_get _ _ _ (by omega) | exact boolD_get _ _ (by omega) | exact i64ss_get _ _ (by omega) | assumption) (by rfl) | exact astep_store_p (by rfl) (by rfl) (by rfl) (by rfl) (by exact i64s_get _ _ (by omega)), by first | trivial | exact (show b ≠ 0 by omega) | omega⟩)
  refine gg1 ?_ (hs := by intro hb; simp +decide only [hb, gd_tt, gd_ff, beq_self_eq_true, Bool.true_and, beq_true]; exact ⟨_, by first | rfl | exact astep_load_r (by rfl) (by rfl) (by exact i64s_get _ _ (by omega)) (by rfl) | exact astep_load_r (by rfl) (by rfl) (by first | exact bks_get _ _ (by omega) | exact pls_get _ _ (by omega) | exact ints_get _ _ _ (by omega) | exact boolD_get _ _ (by omega) | exact i64ss_get _ _ (by omega) | assumption) (by rfl) | exact astep_store_p (by rfl) (by rfl) (by rfl) (by rfl) (by exact i64s_get _ _ (by omega)), by first | trivial | exact (show b ≠ 0 by omega) | omega⟩)
  refine gg1 ?_ (hs := by intro hb; simp +decide only [hb, gd_tt, gd_ff, beq_self_eq_true, Bool.true_and, beq_true]; exact ⟨_, by first | rfl | exact astep_load_r (by rfl) (by rfl) (by exact i64s_get _ _ (by omega)) (by rfl) | exact astep_load_r (by rfl) (by rfl) (by first | exact bks_get _ _ (by omega) | exact pls_get _ _ (by omega) | exact ints_get _ _ _ (by omega) | exact boolD_get _ _ (by omega) | exact i64ss_get _ _ (by omega) | assumption) (by rfl) | exact astep_store_p (by rfl) (by rfl) (by rfl) (by rfl) (by exact i64s_get _ _ (by omega)), by first | trivial | exact (show b ≠ 0 by omega) | omega⟩)
  refine gg1 ?_ (hs := by intro hb; simp +decide only [hb, gd_tt, gd_ff, beq_self_eq_true, Bool.true_and, beq_true]; exact ⟨_, by first | rfl | exact astep_load_r (by rfl) (by rfl) (by exact i64s_get _ _ (by omega)) (by rfl) | exact astep_load_r (by rfl) (by rfl) (by first | exact bks_get _ _ (by omega) | exact pls_get _ _ (by omega) | exact ints_get _ _ _ (by omega) | exact boolD_get _ _ (by omega) | exact i64ss_get _ _ (by omega) | assumption) (by rfl) | exact astep_store_p (by rfl) (by rfl) (by rfl) (by rfl) (by exact i64s_get _ _ (by omega)), by first | trivial | exact (show b ≠ 0 by omega) | omega⟩)
  refine g1 ?_ (hpre := by first | trivial | exact (show b ≠ 0 by omega) | omega)
  refine g1 ?_ (hpre := by first | trivial | exact (show b ≠ 0 by omega) | omega)
  refine awp_ret ?_
  refine fin_mk [] rfl rfl ?_ trivial (by decide)
  show D.val (.bool (isH a b high)) = D.val (.bool (inI high a 1000 && ((IntKind.i64.wrap (high - a)).tmod b == 0)))
  unfold isH
  cases h : inI high a 1000 with
  | false => rfl
  | true =>
    rw [inI_iff] at h
    rw [wI64 (by omega) (by omega)]

theorem asks_isH {a b c : Int} (hp : isPegs (a, b, c)) (hok : pegsOk a b c = true) (dom : Int → Prop) : Says i64D dom (isH a b) (.val (.func (.func 39) #[.agg #[.int .i16 a, .int .i16 b, .int .i16 c]] #[])) :=
  ⟨39, [pegs (a, b, c)], [], s_I_Pegs_isHeight.comap (fun n => ((a, b, c), n)), rfl, rfl, rfl, ok_I_Pegs_isHeight.comap _, fun _ => rfl, fun _ _ => ⟨hp, hok⟩, fun _ => rfl, fun _ => rfl, fun _ => rfl, fun _ => rfl⟩
theorem ok_of_and {x y z : Bool} (h : ((x && y) && z) = true) : x = true := by cases x <;> simp_all

noncomputable abbrev s_I_ValidHeights : Spec ((Int × Int × Int) × List Int) where
  args := fun x => [pegs x.1, .sl 1 (i64s x.2)]
  pre := fun x => isPegs x.1 ∧ x.2.length ≤ 9223372036854775807
  res := fun x => .val (.bool (validH x.1.1 x.1.2.1 x.1.2.2 x.2))

set_option maxRecDepth 20000 in
set_option maxHeartbeats 1000000 in
theorem ok_I_ValidHeights : FnOk Pr 23 s_I_ValidHeights := by
  refine fn_ok 2 0 T0_ok Go.Proofs.Tryd.func23 rfl (enters_of Go.Proofs.Tryd.func23 rfl rfl) (fun _ => rfl) (fun _ => rfl) (fun _ => rfl) ?_
  rintro ⟨⟨a, b, c⟩, xs⟩ ⟨hp, hl⟩ C hP hN hm hG
  change awp C _ _ ⟨[(0, .val (.agg #[.int .i16 a, .int .i16 b, .int .i16 c])), (1, .sl 1 (i64s xs))], [], 0⟩
  simp only at hl
  refine awp_seq ?_
  refine r1 T0_ok hP hm hN ?_
  refine g1 ?_
  refine g1 ?_
  refine awp_seq ?_
  refine r1 T0_ok hP hm hN ?_
  refine g1 ?_
  refine gc1 ?_ (call1 ok_I_ValidPegs (_, _, _) [] (hpre := by (try dsimp only); first | trivial | exact ⟨ha, hb, hc⟩ | exact hp | assumption))
  refine g1 ?_
  refine gg1 ?_
  refine gg1 ?_
  refine ggc1 ?_ (hs := by intro hb; simp +decide only [hb, gd_tt, gd_ff, beq_self_eq_true, Bool.true_and, beq_true]; exact ⟨rfl, _, call1 ok_I_within_int (_, _, _) [], rfl, rfl, rfl⟩)
  refine g1 ?_
  refine g1 ?_
  refine gg1 ?_
  refine ggc1 ?_ (hs := by intro hb; simp +decide only [hb, gd_tt, gd_ff, beq_self_eq_true, Bool.true_and, beq_true]; exact ⟨rfl, _, call1 ok_I_rises _ [] (hpre := by (try dsimp only); first | exact hl | trivial | omega), rfl, rfl, rfl⟩)
  refine g1 ?_
  refine g1 ?_
  refine gg1 ?_
  refine gg1 ?_
  refine gg1 ?_
  refine ggc1 ?_ (hs := by intro hb; simp +decide only [hb, gd_tt, gd_ff, beq_self_eq_true, Bool.true_and, beq_true]; exact ⟨rfl, _, call1 ok_I_areAll_int64 (_, _, isH a b) [] (hpre := by (try dsimp only); exact ⟨hl, rfl, asks_isH hp (ok_of_and hb) _⟩), rfl, rfl, rfl⟩)
  refine g1 ?_
  refine g1 ?_
  refine awp_ret ?_
  refine fin_mk [] rfl rfl ?_ trivial (by decide)
  rfl
end Go.Proofs.YtbgapcmdigcejaaDoor.Abs
