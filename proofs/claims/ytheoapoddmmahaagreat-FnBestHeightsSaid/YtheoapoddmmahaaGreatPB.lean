import Derived.Test.YtheoapoddmmahaaGreatPA
set_option linter.unusedVariables false
set_option linter.unusedSimpArgs false
namespace Go.Proofs.YtheoapoddmmahaaGreat.Abs
open Go Go.RowKit
noncomputable abbrev s_S_l00Same : Spec (List Int) where
  args := fun xs => [.sl 1 (i64s xs), .sl 1 (i64s xs)]
  pre := fun xs => xs.length ≤ 1048576
  res := fun xs => .val (.bool true)

set_option maxRecDepth 20000 in
set_option maxHeartbeats 1000000 in
theorem ok_S_l00Same : FnOk Pr 35 s_S_l00Same := by
 refine fn_ok 2 0 T0_ok Go.Proofs.Tryz.func35 rfl (enters_of Go.Proofs.Tryz.func35 rfl rfl) (fun _ => rfl) (fun _ => rfl) (fun _ => rfl) ?_
 rintro xs hl C hP hN hm hG
 change awp C _ _ ⟨[(0, .sl 1 (i64s xs)), (1, .sl 1 (i64s xs))], [], 0⟩
 have hl : xs.length ≤ 1048576 := hl
 refine awp_seq ?_
 refine r1 T0_ok hP hm hN ?_
 refine g1 ?_
 refine awp_seq ?_
 refine awp_seq ?_
 refine r1 T0_ok hP hm hN ?_
 iterate 5 refine g1 ?_
 refine awp_cond rfl (fun hc0 => ?_) (fun hc0 => ?_)
 ·
  exfalso; simp at hc0
 ·
  refine awp_skip ?_
  refine awp_seq ?_
  refine awp_seq ?_
  refine r1 T0_ok hP hm hN ?_
  refine g1 ?_
  refine awp_block ?_
  refine awp_loop (fun n st => ∃ i : Nat, i ≤ xs.length ∧ n = xs.length - i ∧ st = ⟨[(5, .val (.int .i64 ((i : Nat) : Int))), (0, .sl 1 (i64s xs)), (1, .sl 1 (i64s xs))], [], 0⟩) (xs.length) ⟨_, weak_sl (sub_cons rfl (sub_cons rfl (sub_cons rfl (sub_nil)))), 0, by omega, rfl, rfl⟩ ?_
  rintro n st ⟨i, hii, hni, rfl⟩
  refine awp_seq ?_
  refine awp_seq ?_
  refine r1 T0_ok hP hm hN ?_
  iterate 4 refine g1 ?_
  refine awp_cond rfl (fun hc1 => ?_) (fun hc1 => ?_)
  ·
   have hlti : i < xs.length := by simpa using hc1
   refine awp_skip ?_
   refine awp_seq ?_
   refine awp_block ?_
   refine awp_seq ?_
   refine awp_draw T0_ok hP hm hN Pr_mix [0, 1, 2, 3, 4, 5, 6, 7, 8, 9, 10, 11] [] _ rfl (by rfl) ?_
   iterate 9 refine d1 T0_ok ?_
   refine dreg_nil ?_
   refine awp_cond rfl (fun hc2 => ?_) (fun hc2 => ?_)
   ·
    exfalso; simp at hc2
   ·
    refine awp_skip ?_
    refine r1 T0_ok hP hm hN ?_
    iterate 3 refine g1 ?_
    refine ⟨xs.length - (i + 1), _, by omega, weak_sl (sub_cons rfl (sub_cons rfl (sub_cons rfl (sub_nil)))), i + 1, by omega, rfl, rfl⟩
  ·
   have hgei : ¬ i < xs.length := by simpa using hc1
   have heqi : i = xs.length := by omega
   refine awp_exit ?_
   repeat refine thenA_exit ?_
   refine blockA_hit ?_
   refine awp_seq ?_
   refine r1 T0_ok hP hm hN ?_
   refine g1 ?_
   refine awp_ret ?_
   refine fin_mk [] rfl rfl ?_ trivial (by decide)
   rfl

noncomputable abbrev s_S_A2Same : Spec (List Int) where
  args := fun xs => [.sl 1 (i64s xs), .sl 1 (i64s xs)]
  pre := fun xs => xs.length ≤ 1048576
  res := fun xs => .val (.bool true)

set_option maxRecDepth 20000 in
set_option maxHeartbeats 1000000 in
theorem ok_S_A2Same : FnOk Pr 12 s_S_A2Same := by
 refine fn_ok 2 0 T0_ok Go.Proofs.Tryz.func12 rfl (enters_of Go.Proofs.Tryz.func12 rfl rfl) (fun _ => rfl) (fun _ => rfl) (fun _ => rfl) ?_
 rintro xs hl C hP hN hm hG
 change awp C _ _ ⟨[(0, .sl 1 (i64s xs)), (1, .sl 1 (i64s xs))], [], 0⟩
 have hl : xs.length ≤ 1048576 := hl
 refine awp_seq ?_
 refine r1 T0_ok hP hm hN ?_
 refine g1 ?_
 refine awp_seq ?_
 refine r1 T0_ok hP hm hN ?_
 iterate 2 refine g1 ?_
 refine gc1 ?_ (call1 ok_S_l00Same _ [] (hpre := by (try dsimp only); omega))
 refine g1 ?_
 refine awp_ret ?_
 refine fin_mk [] rfl rfl ?_ trivial (by decide)
 rfl

noncomputable abbrev s_S_A2Has : Spec (List Int × Int) where
  args := fun x => [.sl 1 (i64s x.1), .val (.int .i64 x.2)]
  pre := fun x => x.1.length ≤ 1048576
  res := fun x => .val (.bool (hasB x.1 x.2))

set_option maxRecDepth 20000 in
set_option maxHeartbeats 1000000 in
theorem ok_S_A2Has : FnOk Pr 14 s_S_A2Has := by
 refine fn_ok 2 0 T0_ok Go.Proofs.Tryz.func14 rfl (enters_of Go.Proofs.Tryz.func14 rfl rfl) (fun _ => rfl) (fun _ => rfl) (fun _ => rfl) ?_
 rintro ⟨l, m⟩ hl C hP hN hm hG
 change awp C _ _ ⟨[(0, .sl 1 (i64s l)), (1, .val (.int .i64 m))], [], 0⟩
 simp only at hl
 refine awp_seq ?_
 refine r1 T0_ok hP hm hN ?_
 refine g1 ?_
 refine awp_seq ?_
 refine r1 T0_ok hP hm hN ?_
 iterate 2 refine g1 ?_
 refine gc1 ?_ (call1 ok_S_l00Has (_, _) [] (hpre := by (try dsimp only); omega))
 refine g1 ?_
 refine awp_ret ?_
 refine fin_mk [] rfl rfl ?_ trivial (by decide)
 rfl

noncomputable abbrev s_L_a2Long : Spec (List Int × List Int) where
  args := fun x => [.sl 1 (ints .u8 x.1), .sl 1 (ints .u8 x.2)]
  pre := fun x => x.1.length ≤ 9223372036854775807 ∧ x.2.length ≤ 9223372036854775807
  res := fun x => .val (.bool (decide ((x.1.length : Int) > 3000) || decide ((x.2.length : Int) > 3000)))

set_option maxRecDepth 20000 in
set_option maxHeartbeats 1000000 in
theorem ok_L_a2Long : FnOk Pr 4 s_L_a2Long := by
 refine fn_ok 2 0 T0_ok Go.Proofs.Tryz.func4 rfl (enters_of Go.Proofs.Tryz.func4 rfl rfl) (fun _ => rfl) (fun _ => rfl) (fun _ => rfl) ?_
 rintro ⟨xs, ys⟩ ⟨h1, h2⟩ C hP hN hm hG
 change awp C _ _ ⟨[(0, .sl 1 (ints .u8 xs)), (1, .sl 1 (ints .u8 ys))], [], 0⟩
 simp only at h1 h2
 refine awp_seq ?_
 refine r1 T0_ok hP hm hN ?_
 refine g1 ?_
 refine awp_seq ?_
 refine r1 T0_ok hP hm hN ?_
 iterate 4 refine g1 ?_
 iterate 3 refine gg1 ?_
 iterate 2 refine g1 ?_
 refine awp_ret ?_
 refine fin_mk [] rfl rfl ?_ trivial (by decide)
 rfl

def atV (ys : List Int) : Int := if ys.length = 0 then 0 else (ys.getD 0 0).tmod 4
theorem atV_b {ys : List Int} (h : ∀ x ∈ ys, 0 ≤ x ∧ x ≤ 255) : 0 ≤ atV ys ∧ atV ys < 4 := by
  unfold atV
  split
  · omega
  · rename_i h0
    have := h _ (getD_mem' (d := 0) (show 0 < ys.length by omega))
    exact tmod_b this.1 (by omega)

noncomputable abbrev s_L_a2At : Spec (List Int) where
  args := fun ys => [.sl 1 (ints .u8 ys), .val (.int .i64 0), .val (.int .i64 4)]
  pre := fun ys => (∀ x ∈ ys, 0 ≤ x ∧ x ≤ 255) ∧ ys.length ≤ 1048576
  res := fun ys => .val (.int .i64 (atV ys))

set_option maxRecDepth 20000 in
set_option maxHeartbeats 1000000 in
theorem ok_L_a2At : FnOk Pr 7 s_L_a2At := by
 refine fn_ok 3 0 T0_ok Go.Proofs.Tryz.func7 rfl (enters_of Go.Proofs.Tryz.func7 rfl rfl) (fun _ => rfl) (fun _ => rfl) (fun _ => rfl) ?_
 rintro ys ⟨hb, hl⟩ C hP hN hm hG
 change awp C _ _ ⟨[(0, .sl 1 (ints .u8 ys)), (1, .val (.int .i64 0)), (2, .val (.int .i64 4))], [], 0⟩
 refine awp_seq ?_
 refine r1 T0_ok hP hm hN ?_
 refine g1 ?_ (hst := by simp +decide (disch := omega) only [nrm, lk_nrm, dc_nrm, mk_nrm, mf_nrm, ti_nrm, ls_nrm, mp_nrm, nb_nrm, hset, pick_and, pick_or, ↓reduceIte, Nat.reduceAdd, wI64, wI32, wI16, wI8, wU8, List.length_map, Int.toNat_natCast, xn1, xn2, Int.toNat_zero]; rfl)
 refine awp_seq ?_
 refine awp_seq ?_
 refine r1 T0_ok hP hm hN ?_
 refine g1 ?_ (hst := by simp +decide (disch := omega) only [nrm, lk_nrm, dc_nrm, mk_nrm, mf_nrm, ti_nrm, ls_nrm, mp_nrm, nb_nrm, hset, pick_and, pick_or, ↓reduceIte, Nat.reduceAdd, wI64, wI32, wI16, wI8, wU8, List.length_map, Int.toNat_natCast, xn1, xn2, Int.toNat_zero]; rfl)
 refine g1 ?_ (hst := by simp +decide (disch := omega) only [nrm, lk_nrm, dc_nrm, mk_nrm, mf_nrm, ti_nrm, ls_nrm, mp_nrm, nb_nrm, hset, pick_and, pick_or, ↓reduceIte, Nat.reduceAdd, wI64, wI32, wI16, wI8, wU8, List.length_map, Int.toNat_natCast, xn1, xn2, Int.toNat_zero]; rfl)
 refine g1 ?_ (hst := by simp +decide (disch := omega) only [nrm, lk_nrm, dc_nrm, mk_nrm, mf_nrm, ti_nrm, ls_nrm, mp_nrm, nb_nrm, hset, pick_and, pick_or, ↓reduceIte, Nat.reduceAdd, wI64, wI32, wI16, wI8, wU8, List.length_map, Int.toNat_natCast, xn1, xn2, Int.toNat_zero]; rfl)
 refine g1 ?_ (hst := by simp +decide (disch := omega) only [nrm, lk_nrm, dc_nrm, mk_nrm, mf_nrm, ti_nrm, ls_nrm, mp_nrm, nb_nrm, hset, pick_and, pick_or, ↓reduceIte, Nat.reduceAdd, wI64, wI32, wI16, wI8, wU8, List.length_map, Int.toNat_natCast, xn1, xn2, Int.toNat_zero]; rfl)
 refine g1 ?_ (hst := by simp +decide (disch := omega) only [nrm, lk_nrm, dc_nrm, mk_nrm, mf_nrm, ti_nrm, ls_nrm, mp_nrm, nb_nrm, hset, pick_and, pick_or, ↓reduceIte, Nat.reduceAdd, wI64, wI32, wI16, wI8, wU8, List.length_map, Int.toNat_natCast, xn1, xn2, Int.toNat_zero]; rfl)
 refine gg1 ?_ (hst := by simp +decide (disch := omega) only [nrm, lk_nrm, dc_nrm, mk_nrm, mf_nrm, ti_nrm, ls_nrm, mp_nrm, nb_nrm, hset, pick_and, pick_or, ↓reduceIte, Nat.reduceAdd, wI64, wI32, wI16, wI8, wU8, List.length_map, Int.toNat_natCast, xn1, xn2, Int.toNat_zero]; rfl)
 refine gg1 ?_ (hst := by simp +decide (disch := omega) only [nrm, lk_nrm, dc_nrm, mk_nrm, mf_nrm, ti_nrm, ls_nrm, mp_nrm, nb_nrm, hset, pick_and, pick_or, ↓reduceIte, Nat.reduceAdd, wI64, wI32, wI16, wI8, wU8, List.length_map, Int.toNat_natCast, xn1, xn2, Int.toNat_zero]; rfl)
 refine g1 ?_ (hst := by simp +decide (disch := omega) only [nrm, lk_nrm, dc_nrm, mk_nrm, mf_nrm, ti_nrm, ls_nrm, mp_nrm, nb_nrm, hset, pick_and, pick_or, ↓reduceIte, Nat.reduceAdd, wI64, wI32, wI16, wI8, wU8, List.length_map, Int.toNat_natCast, xn1, xn2, Int.toNat_zero]; rfl)
 refine awp_cond rfl (fun hc0 => ?_) (fun hc0 => ?_)
 ·
  have h0 : ys.length = 0 := by simpa using hc0
  have hr : atV ys = 0 := by rw [atV, if_pos h0]
  refine awp_seq ?_
  refine r1 T0_ok hP hm hN ?_
  refine g1 ?_ (hst := by simp +decide (disch := omega) only [nrm, lk_nrm, dc_nrm, mk_nrm, mf_nrm, ti_nrm, ls_nrm, mp_nrm, nb_nrm, hset, pick_and, pick_or, ↓reduceIte, Nat.reduceAdd, wI64, wI32, wI16, wI8, wU8, List.length_map, Int.toNat_natCast, xn1, xn2, Int.toNat_zero]; rfl)
  refine awp_ret ?_
  refine fin_mk [] rfl rfl ?_ trivial (by decide)
  show D.val (.int .i64 (atV ys)) = _
  rw [hr]
  rfl
 ·
  have h0 : ¬ ys.length = 0 := by
    intro h
    simp [h] at hc0
  have hgx := ints_get .u8 ys 0 (by omega)
  have hbx := hb _ (getD_mem' (d := 0) (show 0 < ys.length by omega))
  have htm := tmod_b hbx.1 (show (0 : Int) < 4 by omega)
  have hr : atV ys = (ys.getD 0 0).tmod 4 := by rw [atV, if_neg h0]
  refine awp_skip ?_
  refine awp_seq ?_
  refine r1 T0_ok hP hm hN ?_
  refine g1 ?_ (hst := by simp +decide (disch := omega) only [nrm, lk_nrm, dc_nrm, mk_nrm, mf_nrm, ti_nrm, ls_nrm, mp_nrm, nb_nrm, hset, pick_and, pick_or, ↓reduceIte, Nat.reduceAdd, wI64, wI32, wI16, wI8, wU8, List.length_map, Int.toNat_natCast, xn1, xn2, Int.toNat_zero]; rfl)
  refine g1 ?_ (hst := by simp +decide (disch := omega) only [nrm, lk_nrm, dc_nrm, mk_nrm, mf_nrm, ti_nrm, ls_nrm, mp_nrm, nb_nrm, hset, pick_and, pick_or, ↓reduceIte, Nat.reduceAdd, wI64, wI32, wI16, wI8, wU8, List.length_map, Int.toNat_natCast, xn1, xn2, Int.toNat_zero]; rfl)
  refine g1 ?_ (hst := by simp +decide (disch := omega) only [nrm, lk_nrm, dc_nrm, mk_nrm, mf_nrm, ti_nrm, ls_nrm, mp_nrm, nb_nrm, hset, pick_and, pick_or, ↓reduceIte, Nat.reduceAdd, wI64, wI32, wI16, wI8, wU8, List.length_map, Int.toNat_natCast, xn1, xn2, Int.toNat_zero]; rfl)
  refine g1 ?_ (hst := by simp +decide (disch := omega) only [nrm, lk_nrm, dc_nrm, mk_nrm, mf_nrm, ti_nrm, ls_nrm, mp_nrm, nb_nrm, hset, pick_and, pick_or, ↓reduceIte, Nat.reduceAdd, wI64, wI32, wI16, wI8, wU8, List.length_map, Int.toNat_natCast, xn1, xn2, Int.toNat_zero]; rfl)
  refine g1 ?_ (hst := by simp +decide (disch := omega) only [nrm, lk_nrm, dc_nrm, mk_nrm, mf_nrm, ti_nrm, ls_nrm, mp_nrm, nb_nrm, hset, pick_and, pick_or, ↓reduceIte, Nat.reduceAdd, wI64, wI32, wI16, wI8, wU8, List.length_map, Int.toNat_natCast, xn1, xn2, Int.toNat_zero]; rfl)
  refine g1 ?_ (hst := by simp +decide (disch := omega) only [nrm, lk_nrm, dc_nrm, mk_nrm, mf_nrm, ti_nrm, ls_nrm, mp_nrm, nb_nrm, hset, pick_and, pick_or, ↓reduceIte, Nat.reduceAdd, wI64, wI32, wI16, wI8, wU8, List.length_map, Int.toNat_natCast, xn1, xn2, Int.toNat_zero]; rfl)
  refine g1 ?_ (hst := by simp +decide (disch := omega) only [nrm, lk_nrm, dc_nrm, mk_nrm, mf_nrm, ti_nrm, ls_nrm, mp_nrm, nb_nrm, hset, pick_and, pick_or, ↓reduceIte, Nat.reduceAdd, wI64, wI32, wI16, wI8, wU8, List.length_map, Int.toNat_natCast, xn1, xn2, Int.toNat_zero]; rfl)
  refine g1 ?_ (hst := by simp +decide (disch := omega) only [nrm, lk_nrm, dc_nrm, mk_nrm, mf_nrm, ti_nrm, ls_nrm, mp_nrm, nb_nrm, hset, pick_and, pick_or, ↓reduceIte, Nat.reduceAdd, wI64, wI32, wI16, wI8, wU8, List.length_map, Int.toNat_natCast, xn1, xn2, Int.toNat_zero]; rfl)
  refine awp_ret ?_
  refine fin_mk [] rfl rfl ?_ trivial (by decide)
  show D.val (.int .i64 (atV ys)) = _
  rw [hr]
  rfl

noncomputable abbrev s_S_A2Heights : Spec (List Int × (Int × Int × Int)) where
  args := fun x => [.sl 1 (ints .u8 x.1), pegs x.2]
  pre := fun x => ((∀ y ∈ x.1, 0 ≤ y ∧ y ≤ 255) ∧ x.1.length ≤ 1048576) ∧ pegsOk x.2.1 x.2.2.1 x.2.2.2 = true ∧ isPegs x.2
  new := fun x => [⟨2, 1, false, i64s (htC x.2 x.1)⟩]
  res := fun x => .own 0

set_option maxRecDepth 20000 in
set_option maxHeartbeats 4000000 in
theorem ok_S_A2Heights : FnOk Pr 15 s_S_A2Heights := by
 refine fn_ok 2 0 T0_ok Go.Proofs.Tryz.func15 rfl (enters_of Go.Proofs.Tryz.func15 rfl rfl) (fun _ => rfl) (fun _ => rfl) (fun _ => rfl) ?_
 rintro ⟨code, a, b, c⟩ ⟨hb, hok, hp⟩ C hP hN hm hG
 change awp C _ _ ⟨[(0, .sl 1 (ints .u8 code)), (1, .val (.agg #[.int .i16 a, .int .i16 b, .int .i16 c]))], [], 0⟩
 simp only at hb hok hp
 have hsrc := okSrc_from hb
 have hdr := dhR_ok (a := a) (b := b) (hsrc.le (show (100 : Int) ≤ 1000 by omega))
 refine awp_seq ?_
 refine r1 T0_ok hP hm hN ?_
 iterate 2 refine g1 ?_
 refine awp_seq ?_
 refine awp_draw T0_ok hP hm hN Pr_mix [0] [1, 3, 5, 6] _ rfl (by rfl) ?_
 refine d1 T0_ok ?_
 refine dp1 ?_ (call_from code hb rfl rfl rfl)
 refine d1 T0_ok ?_
 refine dp1 ?_ (call_l04Drawn (code, (0 : Int), (0 : Int)) (a, b, c) ⟨hsrc.le (by omega), hok, hp⟩ rfl rfl rfl rfl)
 refine d1 T0_ok ?_
 refine dp1 ?_ (call1 ok_S_l04Peg ((_, _, _), _) [] (hpre := by (try dsimp only); exact ⟨hok, by omega, by omega⟩))
 refine dp1 ?_ (call1 ok_S_l00Put (_, _) [] (hpre := by (try dsimp only); exact (by omega)))
 refine d1 T0_ok ?_
 refine dreg_nil ?_
 refine awp_ret ?_
 refine fin_mk [3] rfl rfl ?_ (objs_cons rfl rfl rfl rfl rfl (.inl rfl) objs_nil) (by decide)
 rfl

noncomputable abbrev s_S_A2Books : Spec (List Int) where
  args := fun code => [.sl 1 (ints .u8 code)]
  pre := fun code => (∀ x ∈ code, 0 ≤ x ∧ x ≤ 255) ∧ code.length ≤ 1048576
  res := fun code => .sl 8 (bks (bkC code))

set_option maxRecDepth 20000 in
set_option maxHeartbeats 1000000 in
theorem ok_S_A2Books : FnOk Pr 6 s_S_A2Books := by
 refine fn_ok0 1 T0_ok Go.Proofs.Tryz.func6 rfl (enters_of Go.Proofs.Tryz.func6 rfl rfl) (fun _ => rfl) (fun _ => rfl) (fun _ => rfl) ?_
 rintro code hb C hP hN hm hG hS0
 change awp C _ _ ⟨[(0, .sl 1 (ints .u8 code))], [], 0⟩
 have hsrc := okSrc_from hb
 refine awp_seq ?_
 refine r1 T0_ok hP hm hN ?_
 refine g1 ?_
 refine awp_seq ?_
 refine r1 T0_ok hP hm hN ?_
 refine g1 ?_
 refine gc1 ?_ (call_from code hb rfl rfl rfl)
 refine gc1 ?_ (call_drawn (code, (0 : Int), (0 : Int)) (hsrc.le (by omega)) rfl rfl rfl rfl)
 refine g1 ?_
 refine awp_seq ?_
 refine awp_seq ?_
 refine awp_weak (show Weak C _ ⟨[(3, .sl 8 (bks (lstC code)))], [], 2⟩ from Weak.trans (weak_frz 1 hS0 hG rfl (.inl rfl)) (Weak.trans (weak_drop 0) (weak_sl (sub_cons rfl sub_nil)))) ?_
 have hll : (lstC code).length ≤ 11 := (lstC_ok hb).2
 refine r1 T0_ok hP hm hN ?_
 iterate 3 refine g1 ?_
 refine awp_cond rfl (fun hc0 => ?_) (fun hc0 => ?_)
 ·
  have h8 : (lstC code).length > 8 := by simp at hc0; omega
  refine awp_seq ?_
  refine r1 T0_ok hP hm hN ?_
  refine g1 ?_
  refine g1 ?_ (hpre := by exact ⟨rfl, by omega, by omega, by simp only [List.length_map]; omega⟩) (hst := by simp +decide (disch := omega) only [nrm, lk_nrm, dc_nrm, mk_nrm, mf_nrm, ti_nrm, ls_nrm, mp_nrm, nb_nrm, hset, pick_and, pick_or, ↓reduceIte, Nat.reduceAdd, wI64, wI32, wI16, wI8, wU8, List.length_map, Int.toNat_natCast, xn1, xn2, List.drop_zero, Nat.sub_zero, Int.toNat_zero, ← List.map_take]; rfl)
  refine g1 ?_
  refine awp_ret ?_
  refine fin_mk [] rfl rfl ?_ trivial (by decide)
  rfl
 ·
  have h8 : ¬ (lstC code).length > 8 := by simp at hc0; omega
  have hr : bkC code = lstC code := List.take_of_length_le (by omega)
  refine awp_skip ?_
  refine awp_seq ?_
  refine r1 T0_ok hP hm hN ?_
  iterate 2 refine g1 ?_
  refine awp_ret ?_
  refine fin_mk [] rfl rfl ?_ trivial (by decide)
  show D.sl 8 (bks (bkC code)) = _
  rw [hr]
  rfl

theorem call_books {o : Oper} {cf : Operand} {args : Array Operand} {tys : Array TypeId} {ev : Operand → D} {hp : HP} {nx : Nat} (code : List Int) (hpre : (∀ x ∈ code, 0 ≤ x ∧ x ≤ 255) ∧ code.length ≤ 1048576) (ho : o.op = .call ⟨.value cf, args, tys⟩) (hcf : fnParts (ev cf) = some (.func 6, [], [])) (hargs : args.toList.map ev = [.sl 1 (ints .u8 code)]) :
    OpRel Pr o ev hp nx { d := .sl 8 (bks (bkC code)), new := [], upd := [] } :=
  OpRel.callF ok_S_A2Books code [] (by simp) (o := o) (hp := hp) (nx := nx) (d := .sl 8 (bks (bkC code))) (K0 := []) ho hcf hpre (by rw [List.nil_append, List.append_nil, hargs]; rfl) objsG_nil rfl rfl (fun o ho => by cases ho)
end Go.Proofs.YtheoapoddmmahaaGreat.Abs

