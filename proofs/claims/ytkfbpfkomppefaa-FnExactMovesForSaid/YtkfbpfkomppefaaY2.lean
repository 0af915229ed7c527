import Derived.Test.YtkfbpfkomppefaaY1
set_option linter.unusedVariables false
set_option linter.unusedSimpArgs false
namespace Go.Proofs.Ytkfbpfkomppefaa.Abs
open Go Go.RowKit
abbrev Mv := Int × Int
def mv0 : Mv := (0, 0)
abbrev mvRow (p : Mv) : List D := [.val (.int .i16 p.1), .val (.int .i16 p.2)]
abbrev mvD (p : Mv) : D := .val (.agg #[.int .i16 p.1, .int .i16 p.2])
abbrev mvs (xs : List Mv) : List (List D) := xs.map mvRow
theorem mvs_get (xs : List Mv) (i : Nat) (h : i < xs.length) : (mvs xs)[i]? = some (mvRow (xs.getD i mv0)) := map_get mvRow xs i h
theorem mvs_app (xs ys : List Mv) : mvs (xs ++ ys) = mvs xs ++ mvs ys := by simp
theorem mvs_set (xs : List Mv) (i : Nat) (v : Mv) : mvs (xs.set i v) = (mvs xs).set i (mvRow v) := by simp
theorem flat_mvs (ty : TypeId) (sz : Nat) (dp : Bool) (xs : List Mv) : flatO ⟨ty, sz, dp, mvs xs⟩ := flatO_map mvRow (fun a d hd => by simp [mvRow] at hd; rcases hd with rfl | rfl <;> rfl) _ _ _ _

/-- What marking makes of an element. -/
def mk_move (k : Int) : Mv := (IntKind.i16.wrap (k), IntKind.i16.wrap (k + 1))
def mkd_move (n : Nat) (k : Int) : List Mv := (List.range n).map fun (j : Nat) => mk_move (k + 2 * (j : Int))
def mix_move (xs : List Mv) (k : Int) (i : Nat) : List Mv := mkd_move i k ++ xs.drop i
theorem mkd_move_len (n : Nat) (k : Int) : (mkd_move n k).length = n := by simp [mkd_move]
theorem mkd_move_get {n : Nat} {k : Int} {j : Nat} (h : j < n) : (mkd_move n k).getD j mv0 = mk_move (k + 2 * (j : Int)) := by simp [mkd_move, List.getD, h]
theorem mix_move_zero (xs : List Mv) (k : Int) : mix_move xs k 0 = xs := by simp [mix_move, mkd_move]
theorem mix_move_all (xs : List Mv) (k : Int) : mix_move xs k xs.length = mkd_move xs.length k := by simp [mix_move]
theorem mix_move_len (xs : List Mv) (k : Int) {i : Nat} (h : i ≤ xs.length) : (mix_move xs k i).length = xs.length := by simp [mix_move, mkd_move]; omega
theorem mix_move_set (xs : List Mv) (k : Int) {i : Nat} (h : i < xs.length) : (mix_move xs k i).set i (mk_move (k + 2 * (i : Int))) = mix_move xs k (i + 1) := by
  have e : mkd_move (i + 1) k = mkd_move i k ++ [mk_move (k + 2 * (i : Int))] := by simp [mkd_move, List.range_succ]
  unfold mix_move
  rw [e, List.set_append_right _ _ (by simp [mkd_move]), mkd_move_len, Nat.sub_self, List.drop_eq_getElem_cons h, List.set_cons_zero, List.append_assoc]
  rfl
/-- What the check of marks says. -/
noncomputable def heldR_move (xs : List Mv) (k : Int) : Int := if ask (xs = mkd_move xs.length k) then k + 2 * xs.length else -1
theorem heldR_move_no {xs : List Mv} {k : Int} {i : Nat} (hi : i < xs.length) (h : xs.getD i mv0 ≠ mk_move (k + 2 * (i : Int))) : heldR_move xs k = -1 := by
  unfold heldR_move
  rw [ask_false (fun e => h (by rw [e, mkd_move_get hi]))]
  rfl
theorem heldR_move_yes {xs : List Mv} {k : Int} (h : ∀ i, i < xs.length → xs.getD i mv0 = mk_move (k + 2 * (i : Int))) : heldR_move xs k = k + 2 * xs.length := by
  unfold heldR_move
  rw [ask_true (list_ext' (d := mv0) (mkd_move_len _ _).symm (fun j hj => by rw [h j hj, mkd_move_get hj]))]
  rfl
theorem heldR_move_mkd (n : Nat) (k : Int) : heldR_move (mkd_move n k) k = k + 2 * n := by
  rw [heldR_move_yes (fun i hi => by rw [mkd_move_len] at hi; exact mkd_move_get hi), mkd_move_len]

noncomputable abbrev s_L_eqMove : Spec (Mv × Mv) where
  args := fun x => [mvD x.1, mvD x.2]
  res := fun x => .val (.bool (ask (x.1 = x.2)))

set_option maxRecDepth 20000 in
set_option maxHeartbeats 1000000 in
theorem ok_L_eqMove : FnOk Pr 42 s_L_eqMove := by
  refine fn_ok 2 0 T0_ok Go.Proofs.Try.func42 rfl (enters_of Go.Proofs.Try.func42 rfl rfl) (fun _ => rfl) (fun _ => rfl) (fun _ => rfl) ?_
  rintro ⟨⟨a, b⟩, ⟨c, d⟩⟩ - C hP hN hm hG
  change awp C _ _ ⟨[(0, mvD (a, b)), (1, mvD (c, d))], [], 0⟩
  refine awp_seq ?_
  refine r1 T0_ok hP hm hN ?_
  refine g1 ?_
  refine g1 ?_
  refine g1 ?_
  refine awp_seq ?_
  refine awp_seq ?_
  refine r1 T0_ok hP hm hN ?_
  refine g1 ?_
  refine g1 ?_
  refine g1 ?_
  refine g1 ?_
  refine g1 ?_
  refine awp_cond rfl (fun hc0 => ?_) (fun hc0 => ?_)
  · skip
    refine awp_seq ?_
    refine r1 T0_ok hP hm hN ?_
    refine g1 ?_
    refine awp_ret ?_
    refine fin_mk [] rfl rfl ?_ trivial (by decide)
    show D.val (.bool (ask ((a, b) = (c, d)))) = D.val (.bool false)
    rw [ask_false (fun h => by cases h; simp at hc0)]
  · skip
    refine awp_skip ?_
    refine awp_seq ?_
    refine awp_seq ?_
    refine r1 T0_ok hP hm hN ?_
    refine g1 ?_
    refine g1 ?_
    refine g1 ?_
    refine g1 ?_
    refine g1 ?_
    refine awp_cond rfl (fun hc1 => ?_) (fun hc1 => ?_)
    · skip
      refine awp_seq ?_
      refine r1 T0_ok hP hm hN ?_
      refine g1 ?_
      refine awp_ret ?_
      refine fin_mk [] rfl rfl ?_ trivial (by decide)
      show D.val (.bool (ask ((a, b) = (c, d)))) = D.val (.bool false)
      rw [ask_false (fun h => by cases h; simp at hc1)]
    · skip
      refine awp_skip ?_
      refine awp_seq ?_
      refine r1 T0_ok hP hm hN ?_
      refine g1 ?_
      refine awp_ret ?_
      refine fin_mk [] rfl rfl ?_ trivial (by decide)
      show D.val (.bool (ask ((a, b) = (c, d)))) = D.val (.bool true)
      rw [ask_true (by simp only [bne_eq_false_iff_eq] at hc0 hc1; rw [hc0, hc1])]

noncomputable abbrev s_L_eqMoveS : Spec (List Mv × List Mv) where
  args := fun x => [.sl 2 (mvs x.1), .sl 2 (mvs x.2)]
  pre := fun x => x.1.length ≤ 9223372036854775807 ∧ x.2.length ≤ 9223372036854775807
  res := fun x => .val (.bool (ask (x.1 = x.2)))

set_option maxRecDepth 20000 in
set_option maxHeartbeats 1000000 in
theorem ok_L_eqMoveS : FnOk Pr 23 s_L_eqMoveS := by
  refine fn_ok 2 0 T0_ok Go.Proofs.Try.func23 rfl (enters_of Go.Proofs.Try.func23 rfl rfl) (fun _ => rfl) (fun _ => rfl) (fun _ => rfl) ?_
  rintro ⟨xs, ys⟩ ⟨hp, hp2⟩ C hP hN hm hG
  change awp C _ _ ⟨[(0, .sl 2 (mvs xs)), (1, .sl 2 (mvs ys))], [], 0⟩
  simp only at hp hp2
  refine awp_seq ?_
  refine r1 T0_ok hP hm hN ?_
  refine g1 ?_
  refine awp_seq ?_
  refine awp_seq ?_
  refine r1 T0_ok hP hm hN ?_
  refine g1 ?_
  refine g1 ?_
  refine g1 ?_
  refine g1 ?_
  refine g1 ?_
  refine awp_cond rfl (fun hc0 => ?_) (fun hc0 => ?_)
  · skip
    refine awp_seq ?_
    refine r1 T0_ok hP hm hN ?_
    refine g1 ?_
    refine awp_ret ?_
    refine fin_mk [] rfl rfl ?_ trivial (by decide)
    show D.val (.bool (ask (xs = ys))) = D.val (.bool false)
    rw [ask_false (fun h => by subst h; simp at hc0)]
  · skip
    have hl : xs.length = ys.length := by simp at hc0; omega
    refine awp_skip ?_
    refine awp_seq ?_
    refine awp_seq ?_
    refine r1 T0_ok hP hm hN ?_
    refine g1 ?_
    refine awp_block ?_
    refine awp_loop (fun n st => ∃ i : Nat, i ≤ xs.length ∧ (∀ j, j < i → xs.getD j mv0 = ys.getD j mv0) ∧ n = xs.length - i ∧ st = ⟨[(5, .val (.int .i64 (i : Nat))), (0, .sl 2 (mvs xs)), (1, .sl 2 (mvs ys))], [], 0⟩) (xs.length) ⟨_, weak_sl (sub_cons rfl (sub_cons rfl (sub_cons rfl (sub_nil)))), 0, by omega, fun j h => by omega, rfl, rfl⟩ ?_
    rintro n st ⟨i, hii, hall, hni, rfl⟩
    refine awp_seq ?_
    refine awp_seq ?_
    refine r1 T0_ok hP hm hN ?_
    refine g1 ?_
    refine g1 ?_
    refine g1 ?_
    refine g1 ?_
    refine awp_cond rfl (fun hc1 => ?_) (fun hc1 => ?_)
    · skip
      have hlti : i < xs.length := by simpa using hc1
      have hgx := mvs_get xs i hlti
      have hgy := mvs_get ys i (by omega)
      refine awp_skip ?_
      refine awp_seq ?_
      refine awp_block ?_
      refine awp_seq ?_
      refine awp_draw T0_ok hP hm hN Pr_mix [0, 1, 2, 3, 4, 5, 6, 7, 8, 9, 10, 11] [8] _ rfl (by rfl) ?_
      refine d1 T0_ok ?_
      refine d1 T0_ok ?_
      refine d1 T0_ok ?_
      refine d1 T0_ok ?_
      refine d1 T0_ok ?_
      refine d1 T0_ok ?_
      refine d1 T0_ok ?_
      refine d1 T0_ok ?_
      refine dp1 ?_ (call1 ok_L_eqMove (_, _) [])
      refine d1 T0_ok ?_
      refine dreg_nil ?_
      refine awp_cond rfl (fun hc2 => ?_) (fun hc2 => ?_)
      · skip
        refine awp_seq ?_
        refine r1 T0_ok hP hm hN ?_
        refine g1 ?_
        refine awp_ret ?_
        refine fin_mk [] rfl rfl ?_ trivial (by decide)
        show D.val (.bool (ask (xs = ys))) = D.val (.bool false)
        rw [ask_false (fun h => by subst h; simp [ask] at hc2)]
      · skip
        refine awp_skip ?_
        refine r1 T0_ok hP hm hN ?_
        refine g1 ?_
        refine g1 ?_
        refine g1 ?_
        refine ⟨xs.length - (i + 1), _, by omega, weak_sl (sub_cons rfl (sub_cons rfl (sub_cons rfl (sub_nil)))), i + 1, by omega, upto_step hall (ask_iff.1 (by simpa using hc2)), rfl, rfl⟩
    · skip
      have hgei : ¬ i < xs.length := by simpa using hc1
      have heqi : i = xs.length := by omega
      refine awp_exit ?_
      repeat refine thenA_exit ?_
      refine blockA_hit ?_
      refine awp_seq ?_
      refine r1 T0_ok hP hm hN ?_
      refine g1 ?_
      refine awp_ret ?_
      refine fin_mk [] rfl rfl ?_ trivial (by decide)
      show D.val (.bool (ask (xs = ys))) = D.val (.bool true)
      rw [ask_true (list_ext' (d := mv0) hl (fun j hj => hall j (by omega)))]

noncomputable abbrev s_L_markMoveS : Spec (List Mv × Int) where
  args := fun x => [.own 0, .val (.int .i64 x.2)]
  pre := fun x => x.1.length ≤ 4611686018427387904 ∧ 0 ≤ x.2 ∧ x.2 + 2 * x.1.length ≤ 4611686018427387904
  obs := fun x => [⟨39, 2, false, mvs x.1⟩]
  out := fun x => [⟨39, 2, false, mvs (mkd_move x.1.length x.2)⟩]
  res := fun x => .val (.int .i64 (x.2 + 2 * x.1.length))

set_option maxRecDepth 20000 in
set_option maxHeartbeats 4000000 in
theorem ok_L_markMoveS : FnOk Pr 24 s_L_markMoveS := by
  refine fn_ok 2 1 T0_ok Go.Proofs.Try.func24 rfl (enters_of Go.Proofs.Try.func24 rfl rfl) (fun _ => rfl) (fun _ => rfl) (fun _ => rfl) ?_
  rintro ⟨xs, k⟩ ⟨hl, hk0, hk⟩ C hP hN hm hG
  change awp C _ _ ⟨[(0, .own 0), (1, .val (.int .i64 k))], [(0, ⟨39, 2, false, mvs xs⟩)], 1⟩
  simp only at hl hk0 hk
  refine awp_seq ?_
  refine r1 T0_ok hP hm hN ?_
  refine g1 ?_ (hst := by simp +decide (disch := omega) only [nrm, lk_nrm, dc_nrm, mk_nrm, mf_nrm, ti_nrm, ls_nrm, mp_nrm, nb_nrm, hset, pick_and, pick_or, ↓reduceIte, Nat.reduceAdd, wI64, wI32, wI16, wI8, wU8, List.length_map, Int.toNat_natCast, List.set_set]; rfl)
  refine awp_seq ?_
  refine awp_seq ?_
  refine r1 T0_ok hP hm hN ?_
  refine g1 ?_ (hst := by simp +decide (disch := omega) only [nrm, lk_nrm, dc_nrm, mk_nrm, mf_nrm, ti_nrm, ls_nrm, mp_nrm, nb_nrm, hset, pick_and, pick_or, ↓reduceIte, Nat.reduceAdd, wI64, wI32, wI16, wI8, wU8, List.length_map, Int.toNat_natCast, List.set_set]; rfl)
  refine awp_block ?_
  refine awp_loop (fun n st => ∃ i : Nat, i ≤ xs.length ∧ n = xs.length - i ∧ st = ⟨[(5, .val (.int .i64 (i : Nat))), (1, .val (.int .i64 (k + 2 * ((i : Nat) : Int)))), (0, .own 0)], [(0, ⟨39, 2, false, mvs (mix_move xs k i)⟩)], 1⟩) (xs.length) ⟨_, (by rw [mix_move_zero, show k + 2 * ((0 : Nat) : Int) = k by omega]; exact weak_sl (sub_cons rfl (sub_cons rfl (sub_cons rfl (sub_nil))))), 0, by omega, rfl, rfl⟩ ?_
  rintro n st ⟨i, hii, hni, rfl⟩
  have hml := mix_move_len xs k hii
  refine awp_seq ?_
  refine awp_seq ?_
  refine r1 T0_ok hP hm hN ?_
  refine g1 ?_ (hst := by simp +decide (disch := omega) only [nrm, lk_nrm, dc_nrm, mk_nrm, mf_nrm, ti_nrm, ls_nrm, mp_nrm, nb_nrm, hset, pick_and, pick_or, ↓reduceIte, Nat.reduceAdd, wI64, wI32, wI16, wI8, wU8, List.length_map, Int.toNat_natCast, List.set_set]; rfl)
  refine g1 ?_ (hst := by simp +decide (disch := omega) only [nrm, lk_nrm, dc_nrm, mk_nrm, mf_nrm, ti_nrm, ls_nrm, mp_nrm, nb_nrm, hset, pick_and, pick_or, ↓reduceIte, Nat.reduceAdd, wI64, wI32, wI16, wI8, wU8, List.length_map, Int.toNat_natCast, List.set_set]; rfl)
  refine g1 ?_ (hst := by simp +decide (disch := omega) only [nrm, lk_nrm, dc_nrm, mk_nrm, mf_nrm, ti_nrm, ls_nrm, mp_nrm, nb_nrm, hset, pick_and, pick_or, ↓reduceIte, Nat.reduceAdd, wI64, wI32, wI16, wI8, wU8, List.length_map, Int.toNat_natCast, List.set_set]; rfl)
  refine g1 ?_ (hst := by simp +decide (disch := omega) only [nrm, lk_nrm, dc_nrm, mk_nrm, mf_nrm, ti_nrm, ls_nrm, mp_nrm, nb_nrm, hset, pick_and, pick_or, ↓reduceIte, Nat.reduceAdd, wI64, wI32, wI16, wI8, wU8, List.length_map, Int.toNat_natCast, List.set_set]; rfl)
  refine awp_cond rfl (fun hc0 => ?_) (fun hc0 => ?_)
  · skip
    have hlti : i < xs.length := by simp [hml] at hc0; exact hc0
    have hgm := mvs_get (mix_move xs k i) i (by omega)
    refine awp_skip ?_
    refine awp_seq ?_
    refine awp_block ?_
    refine awp_seq ?_
    refine r1 T0_ok hP hm hN ?_
    refine g1 ?_ (hst := by simp +decide (disch := omega) only [nrm, lk_nrm, dc_nrm, mk_nrm, mf_nrm, ti_nrm, ls_nrm, mp_nrm, nb_nrm, hset, pick_and, pick_or, ↓reduceIte, Nat.reduceAdd, wI64, wI32, wI16, wI8, wU8, List.length_map, Int.toNat_natCast, List.set_set]; rfl)
    refine g1 ?_ (hst := by simp +decide (disch := omega) only [nrm, lk_nrm, dc_nrm, mk_nrm, mf_nrm, ti_nrm, ls_nrm, mp_nrm, nb_nrm, hset, pick_and, pick_or, ↓reduceIte, Nat.reduceAdd, wI64, wI32, wI16, wI8, wU8, List.length_map, Int.toNat_natCast, List.set_set]; rfl)
    refine g1 ?_ (hst := by simp +decide (disch := omega) only [nrm, lk_nrm, dc_nrm, mk_nrm, mf_nrm, ti_nrm, ls_nrm, mp_nrm, nb_nrm, hset, pick_and, pick_or, ↓reduceIte, Nat.reduceAdd, wI64, wI32, wI16, wI8, wU8, List.length_map, Int.toNat_natCast, List.set_set]; rfl)
    refine g1 ?_ (hst := by simp +decide (disch := omega) only [nrm, lk_nrm, dc_nrm, mk_nrm, mf_nrm, ti_nrm, ls_nrm, mp_nrm, nb_nrm, hset, pick_and, pick_or, ↓reduceIte, Nat.reduceAdd, wI64, wI32, wI16, wI8, wU8, List.length_map, Int.toNat_natCast, List.set_set]; rfl)
    refine g1 ?_ (hst := by simp +decide (disch := omega) only [nrm, lk_nrm, dc_nrm, mk_nrm, mf_nrm, ti_nrm, ls_nrm, mp_nrm, nb_nrm, hset, pick_and, pick_or, ↓reduceIte, Nat.reduceAdd, wI64, wI32, wI16, wI8, wU8, List.length_map, Int.toNat_natCast, List.set_set]; rfl)
    refine g1 ?_ (hst := by simp +decide (disch := omega) only [nrm, lk_nrm, dc_nrm, mk_nrm, mf_nrm, ti_nrm, ls_nrm, mp_nrm, nb_nrm, hset, pick_and, pick_or, ↓reduceIte, Nat.reduceAdd, wI64, wI32, wI16, wI8, wU8, List.length_map, Int.toNat_natCast, List.set_set]; rfl)
    refine g1 ?_ (hst := by simp +decide (disch := omega) only [nrm, lk_nrm, dc_nrm, mk_nrm, mf_nrm, ti_nrm, ls_nrm, mp_nrm, nb_nrm, hset, pick_and, pick_or, ↓reduceIte, Nat.reduceAdd, wI64, wI32, wI16, wI8, wU8, List.length_map, Int.toNat_natCast, List.set_set]; rfl)
    refine awp_seq ?_
    refine r1 T0_ok hP hm hN ?_
    refine g1 ?_ (hst := by simp +decide (disch := omega) only [nrm, lk_nrm, dc_nrm, mk_nrm, mf_nrm, ti_nrm, ls_nrm, mp_nrm, nb_nrm, hset, pick_and, pick_or, ↓reduceIte, Nat.reduceAdd, wI64, wI32, wI16, wI8, wU8, List.length_map, Int.toNat_natCast, List.set_set]; rfl)
    refine g1 ?_ (hst := by simp +decide (disch := omega) only [nrm, lk_nrm, dc_nrm, mk_nrm, mf_nrm, ti_nrm, ls_nrm, mp_nrm, nb_nrm, hset, pick_and, pick_or, ↓reduceIte, Nat.reduceAdd, wI64, wI32, wI16, wI8, wU8, List.length_map, Int.toNat_natCast, List.set_set]; rfl)
    refine g1 ?_ (hst := by simp +decide (disch := omega) only [nrm, lk_nrm, dc_nrm, mk_nrm, mf_nrm, ti_nrm, ls_nrm, mp_nrm, nb_nrm, hset, pick_and, pick_or, ↓reduceIte, Nat.reduceAdd, wI64, wI32, wI16, wI8, wU8, List.length_map, Int.toNat_natCast, List.set_set]; rfl)
    refine awp_seq ?_
    refine r1 T0_ok hP hm hN ?_
    refine g1 ?_ (hst := by simp +decide (disch := omega) only [nrm, lk_nrm, dc_nrm, mk_nrm, mf_nrm, ti_nrm, ls_nrm, mp_nrm, nb_nrm, hset, pick_and, pick_or, ↓reduceIte, Nat.reduceAdd, wI64, wI32, wI16, wI8, wU8, List.length_map, Int.toNat_natCast, List.set_set]; rfl)
    refine g1 ?_ (hst := by simp +decide (disch := omega) only [nrm, lk_nrm, dc_nrm, mk_nrm, mf_nrm, ti_nrm, ls_nrm, mp_nrm, nb_nrm, hset, pick_and, pick_or, ↓reduceIte, Nat.reduceAdd, wI64, wI32, wI16, wI8, wU8, List.length_map, Int.toNat_natCast, List.set_set]; rfl)
    refine g1 ?_ (hst := by simp +decide (disch := omega) only [nrm, lk_nrm, dc_nrm, mk_nrm, mf_nrm, ti_nrm, ls_nrm, mp_nrm, nb_nrm, hset, pick_and, pick_or, ↓reduceIte, Nat.reduceAdd, wI64, wI32, wI16, wI8, wU8, List.length_map, Int.toNat_natCast, List.set_set]; rfl)
    refine g1 ?_ (hst := by simp +decide (disch := omega) only [nrm, lk_nrm, dc_nrm, mk_nrm, mf_nrm, ti_nrm, ls_nrm, mp_nrm, nb_nrm, hset, pick_and, pick_or, ↓reduceIte, Nat.reduceAdd, wI64, wI32, wI16, wI8, wU8, List.length_map, Int.toNat_natCast, List.set_set]; rfl)
    refine g1 ?_ (hst := by simp +decide (disch := omega) only [nrm, lk_nrm, dc_nrm, mk_nrm, mf_nrm, ti_nrm, ls_nrm, mp_nrm, nb_nrm, hset, pick_and, pick_or, ↓reduceIte, Nat.reduceAdd, wI64, wI32, wI16, wI8, wU8, List.length_map, Int.toNat_natCast, List.set_set]; rfl)
    refine g1 ?_ (hst := by simp +decide (disch := omega) only [nrm, lk_nrm, dc_nrm, mk_nrm, mf_nrm, ti_nrm, ls_nrm, mp_nrm, nb_nrm, hset, pick_and, pick_or, ↓reduceIte, Nat.reduceAdd, wI64, wI32, wI16, wI8, wU8, List.length_map, Int.toNat_natCast, List.set_set]; rfl)
    refine g1 ?_ (hst := by simp +decide (disch := omega) only [nrm, lk_nrm, dc_nrm, mk_nrm, mf_nrm, ti_nrm, ls_nrm, mp_nrm, nb_nrm, hset, pick_and, pick_or, ↓reduceIte, Nat.reduceAdd, wI64, wI32, wI16, wI8, wU8, List.length_map, Int.toNat_natCast, List.set_set]; rfl)
    refine r1 T0_ok hP hm hN ?_
    refine g1 ?_ (hst := by simp +decide (disch := omega) only [nrm, lk_nrm, dc_nrm, mk_nrm, mf_nrm, ti_nrm, ls_nrm, mp_nrm, nb_nrm, hset, pick_and, pick_or, ↓reduceIte, Nat.reduceAdd, wI64, wI32, wI16, wI8, wU8, List.length_map, Int.toNat_natCast, List.set_set]; rfl)
    refine g1 ?_ (hst := by simp +decide (disch := omega) only [nrm, lk_nrm, dc_nrm, mk_nrm, mf_nrm, ti_nrm, ls_nrm, mp_nrm, nb_nrm, hset, pick_and, pick_or, ↓reduceIte, Nat.reduceAdd, wI64, wI32, wI16, wI8, wU8, List.length_map, Int.toNat_natCast, List.set_set]; rfl)
    refine g1 ?_ (hst := by simp +decide (disch := omega) only [nrm, lk_nrm, dc_nrm, mk_nrm, mf_nrm, ti_nrm, ls_nrm, mp_nrm, nb_nrm, hset, pick_and, pick_or, ↓reduceIte, Nat.reduceAdd, wI64, wI32, wI16, wI8, wU8, List.length_map, Int.toNat_natCast, List.set_set]; rfl)
    refine r1 T0_ok hP hm hN ?_
    refine g1 ?_ (hst := by simp +decide (disch := omega) only [nrm, lk_nrm, dc_nrm, mk_nrm, mf_nrm, ti_nrm, ls_nrm, mp_nrm, nb_nrm, hset, pick_and, pick_or, ↓reduceIte, Nat.reduceAdd, wI64, wI32, wI16, wI8, wU8, List.length_map, Int.toNat_natCast, List.set_set]; rfl)
    refine g1 ?_ (hst := by simp +decide (disch := omega) only [nrm, lk_nrm, dc_nrm, mk_nrm, mf_nrm, ti_nrm, ls_nrm, mp_nrm, nb_nrm, hset, pick_and, pick_or, ↓reduceIte, Nat.reduceAdd, wI64, wI32, wI16, wI8, wU8, List.length_map, Int.toNat_natCast, List.set_set]; rfl)
    refine g1 ?_ (hst := by simp +decide (disch := omega) only [nrm, lk_nrm, dc_nrm, mk_nrm, mf_nrm, ti_nrm, ls_nrm, mp_nrm, nb_nrm, hset, pick_and, pick_or, ↓reduceIte, Nat.reduceAdd, wI64, wI32, wI16, wI8, wU8, List.length_map, Int.toNat_natCast, List.set_set]; rfl)
    refine ⟨xs.length - (i + 1), _, by omega, (by rw [← mix_move_set xs k hlti, mvs_set, show k + 2 * ((i + 1 : Nat) : Int) = k + 2 * (i : Int) + 1 + 1 by omega]; exact weak_sl (sub_cons rfl (sub_cons rfl (sub_cons rfl (sub_nil))))), i + 1, by omega, rfl, rfl⟩
  · skip
    have hgei : ¬ i < xs.length := by simp [hml] at hc0; omega
    have heqi : i = xs.length := by omega
    rw [heqi, mix_move_all]
    refine awp_exit ?_
    repeat refine thenA_exit ?_
    refine blockA_hit ?_
    refine awp_seq ?_
    refine r1 T0_ok hP hm hN ?_
    refine g1 ?_ (hst := by simp +decide (disch := omega) only [nrm, lk_nrm, dc_nrm, mk_nrm, mf_nrm, ti_nrm, ls_nrm, mp_nrm, nb_nrm, hset, pick_and, pick_or, ↓reduceIte, Nat.reduceAdd, wI64, wI32, wI16, wI8, wU8, List.length_map, Int.toNat_natCast, List.set_set]; rfl)
    refine g1 ?_ (hst := by simp +decide (disch := omega) only [nrm, lk_nrm, dc_nrm, mk_nrm, mf_nrm, ti_nrm, ls_nrm, mp_nrm, nb_nrm, hset, pick_and, pick_or, ↓reduceIte, Nat.reduceAdd, wI64, wI32, wI16, wI8, wU8, List.length_map, Int.toNat_natCast, List.set_set]; rfl)
    refine awp_ret ?_
    refine fin_mk [] rfl rfl ?_ (objs_cons rfl rfl rfl rfl rfl (.inl rfl) objs_nil) (by decide)
    rfl

noncomputable abbrev s_L_heldMoveS : Spec (List Mv × Int) where
  args := fun x => [.sl 2 (mvs x.1), .val (.int .i64 x.2)]
  pre := fun x => x.1.length ≤ 4611686018427387904 ∧ 0 ≤ x.2 ∧ x.2 + 2 * x.1.length ≤ 4611686018427387904
  res := fun x => .val (.int .i64 (heldR_move x.1 x.2))

set_option maxRecDepth 20000 in
set_option maxHeartbeats 1000000 in
theorem ok_L_heldMoveS : FnOk Pr 29 s_L_heldMoveS := by
  refine fn_ok 2 0 T0_ok Go.Proofs.Try.func29 rfl (enters_of Go.Proofs.Try.func29 rfl rfl) (fun _ => rfl) (fun _ => rfl) (fun _ => rfl) ?_
  rintro ⟨xs, k⟩ ⟨hl, hk0, hk⟩ C hP hN hm hG
  change awp C _ _ ⟨[(0, .sl 2 (mvs xs)), (1, .val (.int .i64 k))], [], 0⟩
  simp only at hl hk0 hk
  refine awp_seq ?_
  refine r1 T0_ok hP hm hN ?_
  refine g1 ?_
  refine awp_seq ?_
  refine awp_seq ?_
  refine r1 T0_ok hP hm hN ?_
  refine g1 ?_
  refine awp_block ?_
  refine awp_loop (fun n st => ∃ i : Nat, i ≤ xs.length ∧ (∀ j, j < i → xs.getD j mv0 = mk_move (k + 2 * (j : Int))) ∧ n = xs.length - i ∧ st = ⟨[(5, .val (.int .i64 (i : Nat))), (1, .val (.int .i64 (k + 2 * ((i : Nat) : Int)))), (0, .sl 2 (mvs xs))], [], 0⟩) (xs.length) ⟨_, (by rw [show k + 2 * ((0 : Nat) : Int) = k by omega]; exact weak_sl (sub_cons rfl (sub_cons rfl (sub_cons rfl (sub_nil))))), 0, by omega, fun j h => by omega, rfl, rfl⟩ ?_
  rintro n st ⟨i, hii, hall, hni, rfl⟩
  refine awp_seq ?_
  refine awp_seq ?_
  refine r1 T0_ok hP hm hN ?_
  refine g1 ?_
  refine g1 ?_
  refine g1 ?_
  refine g1 ?_
  refine awp_cond rfl (fun hc0 => ?_) (fun hc0 => ?_)
  · skip
    have hlti : i < xs.length := by simpa using hc0
    have hgx := mvs_get xs i hlti
    refine awp_skip ?_
    refine awp_seq ?_
    refine awp_block ?_
    refine awp_seq ?_
    refine awp_seq ?_
    refine r1 T0_ok hP hm hN ?_
    refine g1 ?_
    refine g1 ?_
    refine g1 ?_
    refine g1 ?_
    refine g1 ?_
    refine g1 ?_
    refine g1 ?_
    refine g1 ?_
    refine awp_cond rfl (fun hc1 => ?_) (fun hc1 => ?_)
    · skip
      refine awp_seq ?_
      refine r1 T0_ok hP hm hN ?_
      refine g1 ?_
      refine awp_ret ?_
      refine fin_mk [] rfl rfl ?_ trivial (by decide)
      show D.val (.int .i64 (heldR_move xs k)) = D.val (.int .i64 (-1))
      rw [heldR_move_no hlti (fun e => by rw [e] at hc1; simp [mk_move] at hc1)]
    · skip
      refine awp_skip ?_
      refine awp_seq ?_
      refine r1 T0_ok hP hm hN ?_
      refine g1 ?_
      refine g1 ?_
      refine g1 ?_
      refine awp_seq ?_
      refine awp_seq ?_
      refine r1 T0_ok hP hm hN ?_
      refine g1 ?_
      refine g1 ?_
      refine g1 ?_
      refine g1 ?_
      refine g1 ?_
      refine g1 ?_
      refine g1 ?_
      refine g1 ?_
      refine awp_cond rfl (fun hc2 => ?_) (fun hc2 => ?_)
      · skip
        refine awp_seq ?_
        refine r1 T0_ok hP hm hN ?_
        refine g1 ?_
        refine awp_ret ?_
        refine fin_mk [] rfl rfl ?_ trivial (by decide)
        show D.val (.int .i64 (heldR_move xs k)) = D.val (.int .i64 (-1))
        rw [heldR_move_no hlti (fun e => by rw [e] at hc2; simp [mk_move] at hc2)]
      · skip
        refine awp_skip ?_
        refine r1 T0_ok hP hm hN ?_
        refine g1 ?_
        refine g1 ?_
        refine g1 ?_
        refine r1 T0_ok hP hm hN ?_
        refine g1 ?_
        refine g1 ?_
        refine g1 ?_
        refine ⟨xs.length - (i + 1), _, by omega, (by rw [show k + 2 * ((i + 1 : Nat) : Int) = k + 2 * (i : Int) + 1 + 1 by omega]; exact weak_sl (sub_cons rfl (sub_cons rfl (sub_cons rfl (sub_nil))))), i + 1, by omega, upto_step hall (by have h1 := hc1; have h2 := hc2; simp only [bne_eq_false_iff_eq] at h1 h2; exact Prod.ext h1 h2), rfl, rfl⟩
  · skip
    have hgei : ¬ i < xs.length := by simpa using hc0
    have heqi : i = xs.length := by omega
    refine awp_exit ?_
    repeat refine thenA_exit ?_
    refine blockA_hit ?_
    refine awp_seq ?_
    refine r1 T0_ok hP hm hN ?_
    refine g1 ?_
    refine g1 ?_
    refine awp_ret ?_
    refine fin_mk [] rfl rfl ?_ trivial (by decide)
    show D.val (.int .i64 (heldR_move xs k)) = _
    rw [heldR_move_yes (fun j hj => hall j (by omega)), ← heqi]
    rfl

theorem bmR_snd (xs : List Bk) (b : Blk) : (bmR xs b).2 = !blkBad xs.length b := by unfold bmR; cases h : blkBad xs.length b <;> simp
theorem bmR_good {xs : List Bk} {b : Blk} (h : blkBad xs.length b = false) : bmR xs b = (carB xs b, true) := by simp [bmR, h]
def mB (m : Mv) : Blk := (m.1, 1, m.2)
abbrev isMv (m : Mv) : Prop := isI16 m.1 ∧ isI16 m.2
theorem isBlk_mB {a b : Int} (h1 : isI16 a) (h2 : isI16 b) : isBlk (a, 1, b) := ⟨h1, (show isI16 1 by decide), h2⟩
def mblR (xs : List Bk) (b : Blk) : List Bk × Int := if !validBs xs then ([], 1) else if blkBad xs.length b then ([], 2) else (carB xs b, 0)
theorem mblR_len (xs : List Bk) (b : Blk) : (mblR xs b).1.length ≤ xs.length := by
  unfold mblR
  split
  · simp
  · split
    · simp
    · rename_i h; rw [carB_len (by simpa using h)]; omega
theorem can_bad {n : Nat} {a b : Int} : (!(inI a 0 ((n : Int) - 1) && inI b 0 ((n : Int) - 1))) = blkBad n (a, 1, b) := by
  rw [Bool.eq_iff_iff]
  simp only [blkBad, inI, Bool.not_eq_true', Bool.or_eq_true, Bool.and_eq_false_iff, decide_eq_true_eq, decide_eq_false_iff_not]
  omega
theorem spec_bad {n : Nat} {a c b : Int} : ((decide (c < 1) || !inI a 0 ((n : Int) - c)) || !inI b 0 ((n : Int) - c)) = blkBad n (a, c, b) := by
  rw [Bool.eq_iff_iff]
  simp only [blkBad, inI, Bool.not_eq_true', Bool.or_eq_true, Bool.and_eq_false_iff, decide_eq_true_eq, decide_eq_false_iff_not]
  omega
theorem valid60 {xs : List Bk} (h : (!validBs xs) = false) : xs.length ≤ 60 := by
  simp only [Bool.not_eq_false', validBs, Bool.and_eq_true, decide_eq_true_eq] at h
  omega
theorem carB_nat (xs : List Bk) (f c t : Nat) : carB xs ((f : Int), (c : Int), (t : Int)) = carried xs f c t := rfl

noncomputable abbrev s_S_l03Carried : Spec (List Bk × Nat × Nat × Nat) where
  args := fun x => [.sl 8 (bks x.1), .val (.agg #[.int .i16 (x.2.1 : Nat), .int .i16 (x.2.2.1 : Nat), .int .i16 (x.2.2.2 : Nat)])]
  pre := fun x => x.1.length ≤ 60 ∧ x.2.1 + x.2.2.1 ≤ x.1.length ∧ x.2.2.2 ≤ x.1.length - x.2.2.1
  new := fun x => [⟨60, 8, false, bks (carried x.1 x.2.1 x.2.2.1 x.2.2.2)⟩]
  res := fun x => .own 0

set_option maxRecDepth 20000 in
set_option maxHeartbeats 8000000 in
theorem ok_S_l03Carried : FnOk Pr 32 s_S_l03Carried := by
  refine fn_ok 2 0 T0_ok Go.Proofs.Try.func32 rfl (enters_of Go.Proofs.Try.func32 rfl rfl) (fun _ => rfl) (fun _ => rfl) (fun _ => rfl) ?_
  rintro ⟨xs, f, c, t⟩ ⟨hl, hfc, htc⟩ C hP hN hm hG
  change awp C _ _ ⟨[(0, .sl 8 (bks xs)), (1, .val (.agg #[.int .i16 (f : Nat), .int .i16 (c : Nat), .int .i16 (t : Nat)]))], [], 0⟩
  simp only at hl hfc htc
  have hf1 : (xs.take f).length = f := by rw [List.length_take]; omega
  have hf2 : (xs.drop (f + c)).length = xs.length - (f + c) := List.length_drop
  have hd1 : (xs.drop (f + c)).take (xs.length - (f + c)) = xs.drop (f + c) := List.take_of_length_le (by rw [hf2]; exact Nat.le_refl _)
  have hd2 : f + c - f = c := by omega
  have hd3 : (((xs.take f ++ xs.drop (f + c)).drop t).map bkRow).take (f + (xs.length - (f + c)) - t) = ((xs.take f ++ xs.drop (f + c)).drop t).map bkRow := List.take_of_length_le (by simp only [List.length_map, List.length_drop, List.length_append, List.length_take]; omega)
  refine awp_seq ?_
  refine r1 T0_ok hP hm hN ?_
  refine g1 ?_
  refine g1 ?_
  refine awp_seq ?_
  refine r1 T0_ok hP hm hN ?_
  refine g1 ?_
  refine g1 ?_
  refine g1 ?_
  refine g1 ?_
  refine awp_seq ?_
  refine r1 T0_ok hP hm hN ?_
  refine g1 ?_
  refine g1 ?_
  refine g1 ?_
  refine g1 ?_
  refine g1 ?_ (hst := by simp +decide (disch := omega) only [nrm, lk_nrm, dc_nrm, mk_nrm, mf_nrm, ti_nrm, ls_nrm, mp_nrm, nb_nrm, hset, pick_and, pick_or, ↓reduceIte, Nat.reduceAdd, wI64, wI32, wI16, wI8, wU8, List.length_map, Int.toNat_natCast, natadd']; rfl)
  refine g1 ?_
  refine awp_seq ?_
  refine awp_any hP Pr_mix _ rfl 10 rfl ?_
  refine anyS_float T0_ok hP hm hN (by rfl) 1 rfl rfl rfl (by rfl) (by rfl) (by rfl) ?_
  refine g1 ?_
  refine anyS_float T0_ok hP hm hN (by rfl) 2 rfl rfl rfl (by rfl) (by rfl) (by rfl) ?_
  refine g1 ?_
  refine anyS_float T0_ok hP hm hN (by rfl) 5 rfl rfl rfl (by rfl) (by rfl) (by rfl) ?_
  refine g1 ?_
  refine anyS_float T0_ok hP hm hN (by rfl) 6 rfl rfl rfl (by rfl) (by rfl) (by rfl) ?_
  refine g1 ?_
  refine anyS_cons T0_ok hP hm hN (by rfl) [0, 3, 7] (by rfl) rfl ?_
  refine ⟨⟨_, rfl, rfl, ?_⟩, ?_⟩
  · skip
    refine g1 ?_ (hst := by simp +decide (disch := omega) only [nrm, lk_nrm, dc_nrm, mk_nrm, mf_nrm, ti_nrm, ls_nrm, mp_nrm, nb_nrm, hset, pick_and, pick_or, ↓reduceIte, Nat.reduceAdd, wI64, wI32, wI16, wI8, wU8, List.length_map, Int.toNat_natCast, List.all_nil, Bool.not_true]; rfl)
    refine anyS_cons T0_ok hP hm hN (by rfl) [3, 7] (by rfl) rfl ?_
    refine ⟨⟨_, rfl, rfl, ?_⟩, ?_⟩
    · skip
      refine g1 ?_ (hpre := by exact ⟨rfl, by omega, by (try simp only [List.length_map, List.length_append, List.length_take, List.length_drop]); omega, by (try simp only [List.length_map, List.length_append, List.length_take, List.length_drop]); omega⟩) (hst := by simp +decide (disch := omega) only [nrm, lk_nrm, dc_nrm, mk_nrm, mf_nrm, ti_nrm, ls_nrm, mp_nrm, nb_nrm, hset, pick_and, pick_or, ↓reduceIte, Nat.reduceAdd, wI64, wI32, wI16, wI8, wU8, List.length_map, Int.toNat_natCast, natadd', Int.toNat_natCast, Int.toNat_zero, List.drop_zero, Nat.sub_zero, ← List.map_drop, ← List.map_take, hd1, hd2]; rfl)
      refine anyS_cons T0_ok hP hm hN (by rfl) [4, 7] (by rfl) rfl ?_
      refine ⟨⟨_, rfl, rfl, ?_⟩, ?_⟩
      · skip
        refine ga1 ?_ (hpre := by refine ⟨?_, ?_, ?_, ?_, ?_, ?_, ?_⟩ <;> first | trivial | rfl | exact Nat.le_of_ble_eq_true rfl | (intro h; cases h; done) | (simp only [List.length_map, List.length_append, List.length_cons, List.length_nil, List.length_take, List.length_drop]; omega)) (hst := by simp +decide (disch := omega) only [nrm, lk_nrm, dc_nrm, mk_nrm, mf_nrm, ti_nrm, ls_nrm, mp_nrm, nb_nrm, hset, pick_and, pick_or, ↓reduceIte, Nat.reduceAdd, wI64, wI32, wI16, wI8, wU8, List.length_map, Int.toNat_natCast, kl_nrm, ← List.map_append, List.nil_append, ← List.map_drop, ← List.map_take, hd3]; rfl)
        refine anyS_cons T0_ok hP hm hN (by rfl) [7] (by rfl) rfl ?_
        refine ⟨⟨_, rfl, rfl, ?_⟩, trivial⟩
        refine g1 ?_ (hpre := by exact ⟨rfl, by omega, by (try simp only [List.length_map, List.length_append, List.length_take, List.length_drop]); omega, by (try simp only [List.length_map, List.length_append, List.length_take, List.length_drop]); omega⟩) (hst := by simp +decide (disch := omega) only [nrm, lk_nrm, dc_nrm, mk_nrm, mf_nrm, ti_nrm, ls_nrm, mp_nrm, nb_nrm, hset, pick_and, pick_or, ↓reduceIte, Nat.reduceAdd, wI64, wI32, wI16, wI8, wU8, List.length_map, Int.toNat_natCast, natadd', Int.toNat_natCast, Int.toNat_zero, List.drop_zero, Nat.sub_zero, ← List.map_drop, ← List.map_take, hd1, hd2]; rfl)
        refine anyS_cons T0_ok hP hm hN (by rfl) [8] (by rfl) rfl ?_
        refine ⟨⟨_, rfl, rfl, ?_⟩, trivial⟩
        refine ga1 ?_ (hpre := by refine ⟨?_, ?_, ?_, ?_, ?_, ?_, ?_⟩ <;> first | trivial | rfl | exact Nat.le_of_ble_eq_true rfl | (intro h; cases h; done) | (simp only [List.length_map, List.length_append, List.length_cons, List.length_nil, List.length_take, List.length_drop]; omega)) (hst := by simp +decide (disch := omega) only [nrm, lk_nrm, dc_nrm, mk_nrm, mf_nrm, ti_nrm, ls_nrm, mp_nrm, nb_nrm, hset, pick_and, pick_or, ↓reduceIte, Nat.reduceAdd, wI64, wI32, wI16, wI8, wU8, List.length_map, Int.toNat_natCast, kl_nrm, ← List.map_append, List.nil_append, ← List.map_drop, ← List.map_take, hd3]; rfl)
        refine anyS_cons T0_ok hP hm hN (by rfl) [9] (by rfl) rfl ?_
        refine ⟨⟨_, rfl, rfl, ?_⟩, trivial⟩
        refine g1 ?_
        refine anyS_done (by rfl) ?_
        refine awp_seq ?_
        refine r1 T0_ok hP hm hN ?_
        refine g1 ?_ (hst := by simp +decide (disch := omega) only [nrm, lk_nrm, dc_nrm, mk_nrm, mf_nrm, ti_nrm, ls_nrm, mp_nrm, nb_nrm, hset, pick_and, pick_or, ↓reduceIte, Nat.reduceAdd, wI64, wI32, wI16, wI8, wU8, List.length_map, Int.toNat_natCast, List.all_nil, Bool.not_true]; rfl)
        refine g1 ?_
        refine g1 ?_
        refine g1 ?_
        refine g1 ?_ (hpre := by exact ⟨rfl, by omega, by (try simp only [List.length_map, List.length_append, List.length_take, List.length_drop]); omega, by (try simp only [List.length_map, List.length_append, List.length_take, List.length_drop]); omega⟩) (hst := by simp +decide (disch := omega) only [nrm, lk_nrm, dc_nrm, mk_nrm, mf_nrm, ti_nrm, ls_nrm, mp_nrm, nb_nrm, hset, pick_and, pick_or, ↓reduceIte, Nat.reduceAdd, wI64, wI32, wI16, wI8, wU8, List.length_map, Int.toNat_natCast, natadd', Int.toNat_natCast, Int.toNat_zero, List.drop_zero, Nat.sub_zero, ← List.map_drop, ← List.map_take, hd1, hd2]; rfl)
        refine ga1 ?_ (hpre := by refine ⟨?_, ?_, ?_, ?_, ?_, ?_, ?_⟩ <;> first | trivial | rfl | exact Nat.le_of_ble_eq_true rfl | (intro h; cases h; done) | (simp only [List.length_map, List.length_append, List.length_cons, List.length_nil, List.length_take, List.length_drop]; omega)) (hst := by simp +decide (disch := omega) only [nrm, lk_nrm, dc_nrm, mk_nrm, mf_nrm, ti_nrm, ls_nrm, mp_nrm, nb_nrm, hset, pick_and, pick_or, ↓reduceIte, Nat.reduceAdd, wI64, wI32, wI16, wI8, wU8, List.length_map, Int.toNat_natCast, kl_nrm, ← List.map_append, List.nil_append, ← List.map_drop, ← List.map_take, hd3]; rfl)
        refine g1 ?_
        refine awp_seq ?_
        refine r1 T0_ok hP hm hN ?_
        refine g1 ?_
        refine g1 ?_
        refine g1 ?_
        refine g1 ?_
        refine g1 ?_ (hpre := by exact ⟨rfl, by omega, by (try simp only [List.length_map, List.length_append, List.length_take, List.length_drop]); omega, by (try simp only [List.length_map, List.length_append, List.length_take, List.length_drop]); omega⟩) (hst := by simp +decide (disch := omega) only [nrm, lk_nrm, dc_nrm, mk_nrm, mf_nrm, ti_nrm, ls_nrm, mp_nrm, nb_nrm, hset, pick_and, pick_or, ↓reduceIte, Nat.reduceAdd, wI64, wI32, wI16, wI8, wU8, List.length_map, Int.toNat_natCast, natadd', Int.toNat_natCast, Int.toNat_zero, List.drop_zero, Nat.sub_zero, ← List.map_drop, ← List.map_take, hd1, hd2]; rfl)
        refine ga1 ?_ (hpre := by refine ⟨?_, ?_, ?_, ?_, ?_, ?_, ?_⟩ <;> first | trivial | rfl | exact Nat.le_of_ble_eq_true rfl | (intro h; cases h; done) | (simp only [List.length_map, List.length_append, List.length_cons, List.length_nil, List.length_take, List.length_drop]; omega)) (hst := by simp +decide (disch := omega) only [nrm, lk_nrm, dc_nrm, mk_nrm, mf_nrm, ti_nrm, ls_nrm, mp_nrm, nb_nrm, hset, pick_and, pick_or, ↓reduceIte, Nat.reduceAdd, wI64, wI32, wI16, wI8, wU8, List.length_map, Int.toNat_natCast, kl_nrm, ← List.map_append, List.nil_append, ← List.map_drop, ← List.map_take, hd3]; rfl)
        refine g1 ?_
        refine awp_seq ?_
        refine r1 T0_ok hP hm hN ?_
        refine g1 ?_
        refine g1 ?_
        refine g1 ?_
        refine g1 ?_
        refine g1 ?_ (hpre := by exact ⟨rfl, by omega, by (try simp only [List.length_map, List.length_append, List.length_take, List.length_drop]); omega, by (try simp only [List.length_map, List.length_append, List.length_take, List.length_drop]); omega⟩) (hst := by simp +decide (disch := omega) only [nrm, lk_nrm, dc_nrm, mk_nrm, mf_nrm, ti_nrm, ls_nrm, mp_nrm, nb_nrm, hset, pick_and, pick_or, ↓reduceIte, Nat.reduceAdd, wI64, wI32, wI16, wI8, wU8, List.length_map, Int.toNat_natCast, natadd', Int.toNat_natCast, Int.toNat_zero, List.drop_zero, Nat.sub_zero, ← List.map_drop, ← List.map_take, hd1, hd2, List.length_append, hf1, hf2]; rfl)
        refine ga1 ?_ (hpre := by refine ⟨?_, ?_, ?_, ?_, ?_, ?_, ?_⟩ <;> first | trivial | rfl | exact Nat.le_of_ble_eq_true rfl | (intro h; cases h; done) | (simp only [List.length_map, List.length_append, List.length_cons, List.length_nil, List.length_take, List.length_drop]; omega)) (hst := by simp +decide (disch := omega) only [nrm, lk_nrm, dc_nrm, mk_nrm, mf_nrm, ti_nrm, ls_nrm, mp_nrm, nb_nrm, hset, pick_and, pick_or, ↓reduceIte, Nat.reduceAdd, wI64, wI32, wI16, wI8, wU8, List.length_map, Int.toNat_natCast, kl_nrm, ← List.map_append, List.nil_append, ← List.map_drop, ← List.map_take, hd3]; rfl)
        refine g1 ?_
        refine awp_ret ?_
        refine fin_mk [2] rfl rfl ?_ (objs_cons rfl rfl rfl rfl rfl (.inl rfl) objs_nil) (by decide)
        rfl
      refine ⟨⟨_, rfl, rfl, ?_⟩, trivial⟩
      refine g1 ?_ (hpre := by exact ⟨rfl, by omega, by (try simp only [List.length_map, List.length_append, List.length_take, List.length_drop]); omega, by (try simp only [List.length_map, List.length_append, List.length_take, List.length_drop]); omega⟩) (hst := by simp +decide (disch := omega) only [nrm, lk_nrm, dc_nrm, mk_nrm, mf_nrm, ti_nrm, ls_nrm, mp_nrm, nb_nrm, hset, pick_and, pick_or, ↓reduceIte, Nat.reduceAdd, wI64, wI32, wI16, wI8, wU8, List.length_map, Int.toNat_natCast, natadd', Int.toNat_natCast, Int.toNat_zero, List.drop_zero, Nat.sub_zero, ← List.map_drop, ← List.map_take, hd1, hd2]; rfl)
      refine anyS_cons T0_ok hP hm hN (by rfl) [4] (by rfl) rfl ?_
      refine ⟨⟨_, rfl, rfl, ?_⟩, trivial⟩
      refine ga1 ?_ (hpre := by refine ⟨?_, ?_, ?_, ?_, ?_, ?_, ?_⟩ <;> first | trivial | rfl | exact Nat.le_of_ble_eq_true rfl | (intro h; cases h; done) | (simp only [List.length_map, List.length_append, List.length_cons, List.length_nil, List.length_take, List.length_drop]; omega)) (hst := by simp +decide (disch := omega) only [nrm, lk_nrm, dc_nrm, mk_nrm, mf_nrm, ti_nrm, ls_nrm, mp_nrm, nb_nrm, hset, pick_and, pick_or, ↓reduceIte, Nat.reduceAdd, wI64, wI32, wI16, wI8, wU8, List.length_map, Int.toNat_natCast, kl_nrm, ← List.map_append, List.nil_append, ← List.map_drop, ← List.map_take, hd3]; rfl)
      refine anyS_cons T0_ok hP hm hN (by rfl) [8] (by rfl) rfl ?_
      refine ⟨⟨_, rfl, rfl, ?_⟩, trivial⟩
      refine ga1 ?_ (hpre := by refine ⟨?_, ?_, ?_, ?_, ?_, ?_, ?_⟩ <;> first | trivial | rfl | exact Nat.le_of_ble_eq_true rfl | (intro h; cases h; done) | (simp only [List.length_map, List.length_append, List.length_cons, List.length_nil, List.length_take, List.length_drop]; omega)) (hst := by simp +decide (disch := omega) only [nrm, lk_nrm, dc_nrm, mk_nrm, mf_nrm, ti_nrm, ls_nrm, mp_nrm, nb_nrm, hset, pick_and, pick_or, ↓reduceIte, Nat.reduceAdd, wI64, wI32, wI16, wI8, wU8, List.length_map, Int.toNat_natCast, kl_nrm, ← List.map_append, List.nil_append, ← List.map_drop, ← List.map_take, hd3]; rfl)
      refine anyS_cons T0_ok hP hm hN (by rfl) [9] (by rfl) rfl ?_
      refine ⟨⟨_, rfl, rfl, ?_⟩, trivial⟩
      refine g1 ?_
      refine anyS_done (by rfl) ?_
      refine awp_seq ?_
      refine r1 T0_ok hP hm hN ?_
      refine g1 ?_ (hst := by simp +decide (disch := omega) only [nrm, lk_nrm, dc_nrm, mk_nrm, mf_nrm, ti_nrm, ls_nrm, mp_nrm, nb_nrm, hset, pick_and, pick_or, ↓reduceIte, Nat.reduceAdd, wI64, wI32, wI16, wI8, wU8, List.length_map, Int.toNat_natCast, List.all_nil, Bool.not_true]; rfl)
      refine g1 ?_
      refine g1 ?_
      refine g1 ?_
      refine g1 ?_ (hpre := by exact ⟨rfl, by omega, by (try simp only [List.length_map, List.length_append, List.length_take, List.length_drop]); omega, by (try simp only [List.length_map, List.length_append, List.length_take, List.length_drop]); omega⟩) (hst := by simp +decide (disch := omega) only [nrm, lk_nrm, dc_nrm, mk_nrm, mf_nrm, ti_nrm, ls_nrm, mp_nrm, nb_nrm, hset, pick_and, pick_or, ↓reduceIte, Nat.reduceAdd, wI64, wI32, wI16, wI8, wU8, List.length_map, Int.toNat_natCast, natadd', Int.toNat_natCast, Int.toNat_zero, List.drop_zero, Nat.sub_zero, ← List.map_drop, ← List.map_take, hd1, hd2]; rfl)
      refine ga1 ?_ (hpre := by refine ⟨?_, ?_, ?_, ?_, ?_, ?_, ?_⟩ <;> first | trivial | rfl | exact Nat.le_of_ble_eq_true rfl | (intro h; cases h; done) | (simp only [List.length_map, List.length_append, List.length_cons, List.length_nil, List.length_take, List.length_drop]; omega)) (hst := by simp +decide (disch := omega) only [nrm, lk_nrm, dc_nrm, mk_nrm, mf_nrm, ti_nrm, ls_nrm, mp_nrm, nb_nrm, hset, pick_and, pick_or, ↓reduceIte, Nat.reduceAdd, wI64, wI32, wI16, wI8, wU8, List.length_map, Int.toNat_natCast, kl_nrm, ← List.map_append, List.nil_append, ← List.map_drop, ← List.map_take, hd3]; rfl)
      refine g1 ?_
      refine awp_seq ?_
      refine r1 T0_ok hP hm hN ?_
      refine g1 ?_
      refine g1 ?_
      refine g1 ?_
      refine g1 ?_
      refine g1 ?_ (hpre := by exact ⟨rfl, by omega, by (try simp only [List.length_map, List.length_append, List.length_take, List.length_drop]); omega, by (try simp only [List.length_map, List.length_append, List.length_take, List.length_drop]); omega⟩) (hst := by simp +decide (disch := omega) only [nrm, lk_nrm, dc_nrm, mk_nrm, mf_nrm, ti_nrm, ls_nrm, mp_nrm, nb_nrm, hset, pick_and, pick_or, ↓reduceIte, Nat.reduceAdd, wI64, wI32, wI16, wI8, wU8, List.length_map, Int.toNat_natCast, natadd', Int.toNat_natCast, Int.toNat_zero, List.drop_zero, Nat.sub_zero, ← List.map_drop, ← List.map_take, hd1, hd2]; rfl)
      refine ga1 ?_ (hpre := by refine ⟨?_, ?_, ?_, ?_, ?_, ?_, ?_⟩ <;> first | trivial | rfl | exact Nat.le_of_ble_eq_true rfl | (intro h; cases h; done) | (simp only [List.length_map, List.length_append, List.length_cons, List.length_nil, List.length_take, List.length_drop]; omega)) (hst := by simp +decide (disch := omega) only [nrm, lk_nrm, dc_nrm, mk_nrm, mf_nrm, ti_nrm, ls_nrm, mp_nrm, nb_nrm, hset, pick_and, pick_or, ↓reduceIte, Nat.reduceAdd, wI64, wI32, wI16, wI8, wU8, List.length_map, Int.toNat_natCast, kl_nrm, ← List.map_append, List.nil_append, ← List.map_drop, ← List.map_take, hd3]; rfl)
      refine g1 ?_
      refine awp_seq ?_
      refine r1 T0_ok hP hm hN ?_
      refine g1 ?_
      refine g1 ?_
      refine g1 ?_
      refine g1 ?_
      refine g1 ?_ (hpre := by exact ⟨rfl, by omega, by (try simp only [List.length_map, List.length_append, List.length_take, List.length_drop]); omega, by (try simp only [List.length_map, List.length_append, List.length_take, List.length_drop]); omega⟩) (hst := by simp +decide (disch := omega) only [nrm, lk_nrm, dc_nrm, mk_nrm, mf_nrm, ti_nrm, ls_nrm, mp_nrm, nb_nrm, hset, pick_and, pick_or, ↓reduceIte, Nat.reduceAdd, wI64, wI32, wI16, wI8, wU8, List.length_map, Int.toNat_natCast, natadd', Int.toNat_natCast, Int.toNat_zero, List.drop_zero, Nat.sub_zero, ← List.map_drop, ← List.map_take, hd1, hd2, List.length_append, hf1, hf2]; rfl)
      refine ga1 ?_ (hpre := by refine ⟨?_, ?_, ?_, ?_, ?_, ?_, ?_⟩ <;> first | trivial | rfl | exact Nat.le_of_ble_eq_true rfl | (intro h; cases h; done) | (simp only [List.length_map, List.length_append, List.length_cons, List.length_nil, List.length_take, List.length_drop]; omega)) (hst := by simp +decide (disch := omega) only [nrm, lk_nrm, dc_nrm, mk_nrm, mf_nrm, ti_nrm, ls_nrm, mp_nrm, nb_nrm, hset, pick_and, pick_or, ↓reduceIte, Nat.reduceAdd, wI64, wI32, wI16, wI8, wU8, List.length_map, Int.toNat_natCast, kl_nrm, ← List.map_append, List.nil_append, ← List.map_drop, ← List.map_take, hd3]; rfl)
      refine g1 ?_
      refine awp_ret ?_
      refine fin_mk [2] rfl rfl ?_ (objs_cons rfl rfl rfl rfl rfl (.inl rfl) objs_nil) (by decide)
      rfl
    refine ⟨⟨_, rfl, rfl, ?_⟩, trivial⟩
    refine g1 ?_ (hpre := by exact ⟨rfl, by omega, by (try simp only [List.length_map, List.length_append, List.length_take, List.length_drop]); omega, by (try simp only [List.length_map, List.length_append, List.length_take, List.length_drop]); omega⟩) (hst := by simp +decide (disch := omega) only [nrm, lk_nrm, dc_nrm, mk_nrm, mf_nrm, ti_nrm, ls_nrm, mp_nrm, nb_nrm, hset, pick_and, pick_or, ↓reduceIte, Nat.reduceAdd, wI64, wI32, wI16, wI8, wU8, List.length_map, Int.toNat_natCast, natadd', Int.toNat_natCast, Int.toNat_zero, List.drop_zero, Nat.sub_zero, ← List.map_drop, ← List.map_take, hd1, hd2]; rfl)
    refine anyS_cons T0_ok hP hm hN (by rfl) [3] (by rfl) rfl ?_
    refine ⟨⟨_, rfl, rfl, ?_⟩, trivial⟩
    refine g1 ?_ (hpre := by exact ⟨rfl, by omega, by (try simp only [List.length_map, List.length_append, List.length_take, List.length_drop]); omega, by (try simp only [List.length_map, List.length_append, List.length_take, List.length_drop]); omega⟩) (hst := by simp +decide (disch := omega) only [nrm, lk_nrm, dc_nrm, mk_nrm, mf_nrm, ti_nrm, ls_nrm, mp_nrm, nb_nrm, hset, pick_and, pick_or, ↓reduceIte, Nat.reduceAdd, wI64, wI32, wI16, wI8, wU8, List.length_map, Int.toNat_natCast, natadd', Int.toNat_natCast, Int.toNat_zero, List.drop_zero, Nat.sub_zero, ← List.map_drop, ← List.map_take, hd1, hd2]; rfl)
    refine anyS_cons T0_ok hP hm hN (by rfl) [4] (by rfl) rfl ?_
    refine ⟨⟨_, rfl, rfl, ?_⟩, trivial⟩
    refine ga1 ?_ (hpre := by refine ⟨?_, ?_, ?_, ?_, ?_, ?_, ?_⟩ <;> first | trivial | rfl | exact Nat.le_of_ble_eq_true rfl | (intro h; cases h; done) | (simp only [List.length_map, List.length_append, List.length_cons, List.length_nil, List.length_take, List.length_drop]; omega)) (hst := by simp +decide (disch := omega) only [nrm, lk_nrm, dc_nrm, mk_nrm, mf_nrm, ti_nrm, ls_nrm, mp_nrm, nb_nrm, hset, pick_and, pick_or, ↓reduceIte, Nat.reduceAdd, wI64, wI32, wI16, wI8, wU8, List.length_map, Int.toNat_natCast, kl_nrm, ← List.map_append, List.nil_append, ← List.map_drop, ← List.map_take, hd3]; rfl)
    refine anyS_cons T0_ok hP hm hN (by rfl) [8] (by rfl) rfl ?_
    refine ⟨⟨_, rfl, rfl, ?_⟩, trivial⟩
    refine ga1 ?_ (hpre := by refine ⟨?_, ?_, ?_, ?_, ?_, ?_, ?_⟩ <;> first | trivial | rfl | exact Nat.le_of_ble_eq_true rfl | (intro h; cases h; done) | (simp only [List.length_map, List.length_append, List.length_cons, List.length_nil, List.length_take, List.length_drop]; omega)) (hst := by simp +decide (disch := omega) only [nrm, lk_nrm, dc_nrm, mk_nrm, mf_nrm, ti_nrm, ls_nrm, mp_nrm, nb_nrm, hset, pick_and, pick_or, ↓reduceIte, Nat.reduceAdd, wI64, wI32, wI16, wI8, wU8, List.length_map, Int.toNat_natCast, kl_nrm, ← List.map_append, List.nil_append, ← List.map_drop, ← List.map_take, hd3]; rfl)
    refine anyS_cons T0_ok hP hm hN (by rfl) [9] (by rfl) rfl ?_
    refine ⟨⟨_, rfl, rfl, ?_⟩, trivial⟩
    refine g1 ?_
    refine anyS_done (by rfl) ?_
    refine awp_seq ?_
    refine r1 T0_ok hP hm hN ?_
    refine g1 ?_ (hst := by simp +decide (disch := omega) only [nrm, lk_nrm, dc_nrm, mk_nrm, mf_nrm, ti_nrm, ls_nrm, mp_nrm, nb_nrm, hset, pick_and, pick_or, ↓reduceIte, Nat.reduceAdd, wI64, wI32, wI16, wI8, wU8, List.length_map, Int.toNat_natCast, List.all_nil, Bool.not_true]; rfl)
    refine g1 ?_
    refine g1 ?_
    refine g1 ?_
    refine g1 ?_ (hpre := by exact ⟨rfl, by omega, by (try simp only [List.length_map, List.length_append, List.length_take, List.length_drop]); omega, by (try simp only [List.length_map, List.length_append, List.length_take, List.length_drop]); omega⟩) (hst := by simp +decide (disch := omega) only [nrm, lk_nrm, dc_nrm, mk_nrm, mf_nrm, ti_nrm, ls_nrm, mp_nrm, nb_nrm, hset, pick_and, pick_or, ↓reduceIte, Nat.reduceAdd, wI64, wI32, wI16, wI8, wU8, List.length_map, Int.toNat_natCast, natadd', Int.toNat_natCast, Int.toNat_zero, List.drop_zero, Nat.sub_zero, ← List.map_drop, ← List.map_take, hd1, hd2]; rfl)
    refine ga1 ?_ (hpre := by refine ⟨?_, ?_, ?_, ?_, ?_, ?_, ?_⟩ <;> first | trivial | rfl | exact Nat.le_of_ble_eq_true rfl | (intro h; cases h; done) | (simp only [List.length_map, List.length_append, List.length_cons, List.length_nil, List.length_take, List.length_drop]; omega)) (hst := by simp +decide (disch := omega) only [nrm, lk_nrm, dc_nrm, mk_nrm, mf_nrm, ti_nrm, ls_nrm, mp_nrm, nb_nrm, hset, pick_and, pick_or, ↓reduceIte, Nat.reduceAdd, wI64, wI32, wI16, wI8, wU8, List.length_map, Int.toNat_natCast, kl_nrm, ← List.map_append, List.nil_append, ← List.map_drop, ← List.map_take, hd3]; rfl)
    refine g1 ?_
    refine awp_seq ?_
    refine r1 T0_ok hP hm hN ?_
    refine g1 ?_
    refine g1 ?_
    refine g1 ?_
    refine g1 ?_
    refine g1 ?_ (hpre := by exact ⟨rfl, by omega, by (try simp only [List.length_map, List.length_append, List.length_take, List.length_drop]); omega, by (try simp only [List.length_map, List.length_append, List.length_take, List.length_drop]); omega⟩) (hst := by simp +decide (disch := omega) only [nrm, lk_nrm, dc_nrm, mk_nrm, mf_nrm, ti_nrm, ls_nrm, mp_nrm, nb_nrm, hset, pick_and, pick_or, ↓reduceIte, Nat.reduceAdd, wI64, wI32, wI16, wI8, wU8, List.length_map, Int.toNat_natCast, natadd', Int.toNat_natCast, Int.toNat_zero, List.drop_zero, Nat.sub_zero, ← List.map_drop, ← List.map_take, hd1, hd2]; rfl)
    refine ga1 ?_ (hpre := by refine ⟨?_, ?_, ?_, ?_, ?_, ?_, ?_⟩ <;> first | trivial | rfl | exact Nat.le_of_ble_eq_true rfl | (intro h; cases h; done) | (simp only [List.length_map, List.length_append, List.length_cons, List.length_nil, List.length_take, List.length_drop]; omega)) (hst := by simp +decide (disch := omega) only [nrm, lk_nrm, dc_nrm, mk_nrm, mf_nrm, ti_nrm, ls_nrm, mp_nrm, nb_nrm, hset, pick_and, pick_or, ↓reduceIte, Nat.reduceAdd, wI64, wI32, wI16, wI8, wU8, List.length_map, Int.toNat_natCast, kl_nrm, ← List.map_append, List.nil_append, ← List.map_drop, ← List.map_take, hd3]; rfl)
    refine g1 ?_
    refine awp_seq ?_
    refine r1 T0_ok hP hm hN ?_
    refine g1 ?_
    refine g1 ?_
    refine g1 ?_
    refine g1 ?_
    refine g1 ?_ (hpre := by exact ⟨rfl, by omega, by (try simp only [List.length_map, List.length_append, List.length_take, List.length_drop]); omega, by (try simp only [List.length_map, List.length_append, List.length_take, List.length_drop]); omega⟩) (hst := by simp +decide (disch := omega) only [nrm, lk_nrm, dc_nrm, mk_nrm, mf_nrm, ti_nrm, ls_nrm, mp_nrm, nb_nrm, hset, pick_and, pick_or, ↓reduceIte, Nat.reduceAdd, wI64, wI32, wI16, wI8, wU8, List.length_map, Int.toNat_natCast, natadd', Int.toNat_natCast, Int.toNat_zero, List.drop_zero, Nat.sub_zero, ← List.map_drop, ← List.map_take, hd1, hd2, List.length_append, hf1, hf2]; rfl)
    refine ga1 ?_ (hpre := by refine ⟨?_, ?_, ?_, ?_, ?_, ?_, ?_⟩ <;> first | trivial | rfl | exact Nat.le_of_ble_eq_true rfl | (intro h; cases h; done) | (simp only [List.length_map, List.length_append, List.length_cons, List.length_nil, List.length_take, List.length_drop]; omega)) (hst := by simp +decide (disch := omega) only [nrm, lk_nrm, dc_nrm, mk_nrm, mf_nrm, ti_nrm, ls_nrm, mp_nrm, nb_nrm, hset, pick_and, pick_or, ↓reduceIte, Nat.reduceAdd, wI64, wI32, wI16, wI8, wU8, List.length_map, Int.toNat_natCast, kl_nrm, ← List.map_append, List.nil_append, ← List.map_drop, ← List.map_take, hd3]; rfl)
    refine g1 ?_
    refine awp_ret ?_
    refine fin_mk [2] rfl rfl ?_ (objs_cons rfl rfl rfl rfl rfl (.inl rfl) objs_nil) (by decide)
    rfl
  refine ⟨⟨_, rfl, rfl, ?_⟩, ?_⟩
  · skip
    refine g1 ?_ (hpre := by exact ⟨rfl, by omega, by (try simp only [List.length_map, List.length_append, List.length_take, List.length_drop]); omega, by (try simp only [List.length_map, List.length_append, List.length_take, List.length_drop]); omega⟩) (hst := by simp +decide (disch := omega) only [nrm, lk_nrm, dc_nrm, mk_nrm, mf_nrm, ti_nrm, ls_nrm, mp_nrm, nb_nrm, hset, pick_and, pick_or, ↓reduceIte, Nat.reduceAdd, wI64, wI32, wI16, wI8, wU8, List.length_map, Int.toNat_natCast, natadd', Int.toNat_natCast, Int.toNat_zero, List.drop_zero, Nat.sub_zero, ← List.map_drop, ← List.map_take, hd1, hd2]; rfl)
    refine anyS_cons T0_ok hP hm hN (by rfl) [0, 7] (by rfl) rfl ?_
    refine ⟨⟨_, rfl, rfl, ?_⟩, ?_⟩
    · skip
      refine g1 ?_ (hst := by simp +decide (disch := omega) only [nrm, lk_nrm, dc_nrm, mk_nrm, mf_nrm, ti_nrm, ls_nrm, mp_nrm, nb_nrm, hset, pick_and, pick_or, ↓reduceIte, Nat.reduceAdd, wI64, wI32, wI16, wI8, wU8, List.length_map, Int.toNat_natCast, List.all_nil, Bool.not_true]; rfl)
      refine anyS_cons T0_ok hP hm hN (by rfl) [4, 7] (by rfl) rfl ?_
      refine ⟨⟨_, rfl, rfl, ?_⟩, ?_⟩
      · skip
        refine ga1 ?_ (hpre := by refine ⟨?_, ?_, ?_, ?_, ?_, ?_, ?_⟩ <;> first | trivial | rfl | exact Nat.le_of_ble_eq_true rfl | (intro h; cases h; done) | (simp only [List.length_map, List.length_append, List.length_cons, List.length_nil, List.length_take, List.length_drop]; omega)) (hst := by simp +decide (disch := omega) only [nrm, lk_nrm, dc_nrm, mk_nrm, mf_nrm, ti_nrm, ls_nrm, mp_nrm, nb_nrm, hset, pick_and, pick_or, ↓reduceIte, Nat.reduceAdd, wI64, wI32, wI16, wI8, wU8, List.length_map, Int.toNat_natCast, kl_nrm, ← List.map_append, List.nil_append, ← List.map_drop, ← List.map_take, hd3]; rfl)
        refine anyS_cons T0_ok hP hm hN (by rfl) [7] (by rfl) rfl ?_
        refine ⟨⟨_, rfl, rfl, ?_⟩, trivial⟩
        refine g1 ?_ (hpre := by exact ⟨rfl, by omega, by (try simp only [List.length_map, List.length_append, List.length_take, List.length_drop]); omega, by (try simp only [List.length_map, List.length_append, List.length_take, List.length_drop]); omega⟩) (hst := by simp +decide (disch := omega) only [nrm, lk_nrm, dc_nrm, mk_nrm, mf_nrm, ti_nrm, ls_nrm, mp_nrm, nb_nrm, hset, pick_and, pick_or, ↓reduceIte, Nat.reduceAdd, wI64, wI32, wI16, wI8, wU8, List.length_map, Int.toNat_natCast, natadd', Int.toNat_natCast, Int.toNat_zero, List.drop_zero, Nat.sub_zero, ← List.map_drop, ← List.map_take, hd1, hd2]; rfl)
        refine anyS_cons T0_ok hP hm hN (by rfl) [8] (by rfl) rfl ?_
        refine ⟨⟨_, rfl, rfl, ?_⟩, trivial⟩
        refine ga1 ?_ (hpre := by refine ⟨?_, ?_, ?_, ?_, ?_, ?_, ?_⟩ <;> first | trivial | rfl | exact Nat.le_of_ble_eq_true rfl | (intro h; cases h; done) | (simp only [List.length_map, List.length_append, List.length_cons, List.length_nil, List.length_take, List.length_drop]; omega)) (hst := by simp +decide (disch := omega) only [nrm, lk_nrm, dc_nrm, mk_nrm, mf_nrm, ti_nrm, ls_nrm, mp_nrm, nb_nrm, hset, pick_and, pick_or, ↓reduceIte, Nat.reduceAdd, wI64, wI32, wI16, wI8, wU8, List.length_map, Int.toNat_natCast, kl_nrm, ← List.map_append, List.nil_append, ← List.map_drop, ← List.map_take, hd3]; rfl)
        refine anyS_cons T0_ok hP hm hN (by rfl) [9] (by rfl) rfl ?_
        refine ⟨⟨_, rfl, rfl, ?_⟩, trivial⟩
        refine g1 ?_
        refine anyS_done (by rfl) ?_
        refine awp_seq ?_
        refine r1 T0_ok hP hm hN ?_
        refine g1 ?_ (hst := by simp +decide (disch := omega) only [nrm, lk_nrm, dc_nrm, mk_nrm, mf_nrm, ti_nrm, ls_nrm, mp_nrm, nb_nrm, hset, pick_and, pick_or, ↓reduceIte, Nat.reduceAdd, wI64, wI32, wI16, wI8, wU8, List.length_map, Int.toNat_natCast, List.all_nil, Bool.not_true]; rfl)
        refine g1 ?_
        refine g1 ?_
        refine g1 ?_
        refine g1 ?_ (hpre := by exact ⟨rfl, by omega, by (try simp only [List.length_map, List.length_append, List.length_take, List.length_drop]); omega, by (try simp only [List.length_map, List.length_append, List.length_take, List.length_drop]); omega⟩) (hst := by simp +decide (disch := omega) only [nrm, lk_nrm, dc_nrm, mk_nrm, mf_nrm, ti_nrm, ls_nrm, mp_nrm, nb_nrm, hset, pick_and, pick_or, ↓reduceIte, Nat.reduceAdd, wI64, wI32, wI16, wI8, wU8, List.length_map, Int.toNat_natCast, natadd', Int.toNat_natCast, Int.toNat_zero, List.drop_zero, Nat.sub_zero, ← List.map_drop, ← List.map_take, hd1, hd2]; rfl)
        refine ga1 ?_ (hpre := by refine ⟨?_, ?_, ?_, ?_, ?_, ?_, ?_⟩ <;> first | trivial | rfl | exact Nat.le_of_ble_eq_true rfl | (intro h; cases h; done) | (simp only [List.length_map, List.length_append, List.length_cons, List.length_nil, List.length_take, List.length_drop]; omega)) (hst := by simp +decide (disch := omega) only [nrm, lk_nrm, dc_nrm, mk_nrm, mf_nrm, ti_nrm, ls_nrm, mp_nrm, nb_nrm, hset, pick_and, pick_or, ↓reduceIte, Nat.reduceAdd, wI64, wI32, wI16, wI8, wU8, List.length_map, Int.toNat_natCast, kl_nrm, ← List.map_append, List.nil_append, ← List.map_drop, ← List.map_take, hd3]; rfl)
        refine g1 ?_
        refine awp_seq ?_
        refine r1 T0_ok hP hm hN ?_
        refine g1 ?_
        refine g1 ?_
        refine g1 ?_
        refine g1 ?_
        refine g1 ?_ (hpre := by exact ⟨rfl, by omega, by (try simp only [List.length_map, List.length_append, List.length_take, List.length_drop]); omega, by (try simp only [List.length_map, List.length_append, List.length_take, List.length_drop]); omega⟩) (hst := by simp +decide (disch := omega) only [nrm, lk_nrm, dc_nrm, mk_nrm, mf_nrm, ti_nrm, ls_nrm, mp_nrm, nb_nrm, hset, pick_and, pick_or, ↓reduceIte, Nat.reduceAdd, wI64, wI32, wI16, wI8, wU8, List.length_map, Int.toNat_natCast, natadd', Int.toNat_natCast, Int.toNat_zero, List.drop_zero, Nat.sub_zero, ← List.map_drop, ← List.map_take, hd1, hd2]; rfl)
        refine ga1 ?_ (hpre := by refine ⟨?_, ?_, ?_, ?_, ?_, ?_, ?_⟩ <;> first | trivial | rfl | exact Nat.le_of_ble_eq_true rfl | (intro h; cases h; done) | (simp only [List.length_map, List.length_append, List.length_cons, List.length_nil, List.length_take, List.length_drop]; omega)) (hst := by simp +decide (disch := omega) only [nrm, lk_nrm, dc_nrm, mk_nrm, mf_nrm, ti_nrm, ls_nrm, mp_nrm, nb_nrm, hset, pick_and, pick_or, ↓reduceIte, Nat.reduceAdd, wI64, wI32, wI16, wI8, wU8, List.length_map, Int.toNat_natCast, kl_nrm, ← List.map_append, List.nil_append, ← List.map_drop, ← List.map_take, hd3]; rfl)
        refine g1 ?_
        refine awp_seq ?_
        refine r1 T0_ok hP hm hN ?_
        refine g1 ?_
        refine g1 ?_
        refine g1 ?_
        refine g1 ?_
        refine g1 ?_ (hpre := by exact ⟨rfl, by omega, by (try simp only [List.length_map, List.length_append, List.length_take, List.length_drop]); omega, by (try simp only [List.length_map, List.length_append, List.length_take, List.length_drop]); omega⟩) (hst := by simp +decide (disch := omega) only [nrm, lk_nrm, dc_nrm, mk_nrm, mf_nrm, ti_nrm, ls_nrm, mp_nrm, nb_nrm, hset, pick_and, pick_or, ↓reduceIte, Nat.reduceAdd, wI64, wI32, wI16, wI8, wU8, List.length_map, Int.toNat_natCast, natadd', Int.toNat_natCast, Int.toNat_zero, List.drop_zero, Nat.sub_zero, ← List.map_drop, ← List.map_take, hd1, hd2, List.length_append, hf1, hf2]; rfl)
        refine ga1 ?_ (hpre := by refine ⟨?_, ?_, ?_, ?_, ?_, ?_, ?_⟩ <;> first | trivial | rfl | exact Nat.le_of_ble_eq_true rfl | (intro h; cases h; done) | (simp only [List.length_map, List.length_append, List.length_cons, List.length_nil, List.length_take, List.length_drop]; omega)) (hst := by simp +decide (disch := omega) only [nrm, lk_nrm, dc_nrm, mk_nrm, mf_nrm, ti_nrm, ls_nrm, mp_nrm, nb_nrm, hset, pick_and, pick_or, ↓reduceIte, Nat.reduceAdd, wI64, wI32, wI16, wI8, wU8, List.length_map, Int.toNat_natCast, kl_nrm, ← List.map_append, List.nil_append, ← List.map_drop, ← List.map_take, hd3]; rfl)
        refine g1 ?_
        refine awp_ret ?_
        refine fin_mk [2] rfl rfl ?_ (objs_cons rfl rfl rfl rfl rfl (.inl rfl) objs_nil) (by decide)
        rfl
      refine ⟨⟨_, rfl, rfl, ?_⟩, trivial⟩
      refine g1 ?_ (hpre := by exact ⟨rfl, by omega, by (try simp only [List.length_map, List.length_append, List.length_take, List.length_drop]); omega, by (try simp only [List.length_map, List.length_append, List.length_take, List.length_drop]); omega⟩) (hst := by simp +decide (disch := omega) only [nrm, lk_nrm, dc_nrm, mk_nrm, mf_nrm, ti_nrm, ls_nrm, mp_nrm, nb_nrm, hset, pick_and, pick_or, ↓reduceIte, Nat.reduceAdd, wI64, wI32, wI16, wI8, wU8, List.length_map, Int.toNat_natCast, natadd', Int.toNat_natCast, Int.toNat_zero, List.drop_zero, Nat.sub_zero, ← List.map_drop, ← List.map_take, hd1, hd2]; rfl)
      refine anyS_cons T0_ok hP hm hN (by rfl) [4] (by rfl) rfl ?_
      refine ⟨⟨_, rfl, rfl, ?_⟩, trivial⟩
      refine ga1 ?_ (hpre := by refine ⟨?_, ?_, ?_, ?_, ?_, ?_, ?_⟩ <;> first | trivial | rfl | exact Nat.le_of_ble_eq_true rfl | (intro h; cases h; done) | (simp only [List.length_map, List.length_append, List.length_cons, List.length_nil, List.length_take, List.length_drop]; omega)) (hst := by simp +decide (disch := omega) only [nrm, lk_nrm, dc_nrm, mk_nrm, mf_nrm, ti_nrm, ls_nrm, mp_nrm, nb_nrm, hset, pick_and, pick_or, ↓reduceIte, Nat.reduceAdd, wI64, wI32, wI16, wI8, wU8, List.length_map, Int.toNat_natCast, kl_nrm, ← List.map_append, List.nil_append, ← List.map_drop, ← List.map_take, hd3]; rfl)
      refine anyS_cons T0_ok hP hm hN (by rfl) [8] (by rfl) rfl ?_
      refine ⟨⟨_, rfl, rfl, ?_⟩, trivial⟩
      refine ga1 ?_ (hpre := by refine ⟨?_, ?_, ?_, ?_, ?_, ?_, ?_⟩ <;> first | trivial | rfl | exact Nat.le_of_ble_eq_true rfl | (intro h; cases h; done) | (simp only [List.length_map, List.length_append, List.length_cons, List.length_nil, List.length_take, List.length_drop]; omega)) (hst := by simp +decide (disch := omega) only [nrm, lk_nrm, dc_nrm, mk_nrm, mf_nrm, ti_nrm, ls_nrm, mp_nrm, nb_nrm, hset, pick_and, pick_or, ↓reduceIte, Nat.reduceAdd, wI64, wI32, wI16, wI8, wU8, List.length_map, Int.toNat_natCast, kl_nrm, ← List.map_append, List.nil_append, ← List.map_drop, ← List.map_take, hd3]; rfl)
      refine anyS_cons T0_ok hP hm hN (by rfl) [9] (by rfl) rfl ?_
      refine ⟨⟨_, rfl, rfl, ?_⟩, trivial⟩
      refine g1 ?_
      refine anyS_done (by rfl) ?_
      refine awp_seq ?_
      refine r1 T0_ok hP hm hN ?_
      refine g1 ?_ (hst := by simp +decide (disch := omega) only [nrm, lk_nrm, dc_nrm, mk_nrm, mf_nrm, ti_nrm, ls_nrm, mp_nrm, nb_nrm, hset, pick_and, pick_or, ↓reduceIte, Nat.reduceAdd, wI64, wI32, wI16, wI8, wU8, List.length_map, Int.toNat_natCast, List.all_nil, Bool.not_true]; rfl)
      refine g1 ?_
      refine g1 ?_
      refine g1 ?_
      refine g1 ?_ (hpre := by exact ⟨rfl, by omega, by (try simp only [List.length_map, List.length_append, List.length_take, List.length_drop]); omega, by (try simp only [List.length_map, List.length_append, List.length_take, List.length_drop]); omega⟩) (hst := by simp +decide (disch := omega) only [nrm, lk_nrm, dc_nrm, mk_nrm, mf_nrm, ti_nrm, ls_nrm, mp_nrm, nb_nrm, hset, pick_and, pick_or, ↓reduceIte, Nat.reduceAdd, wI64, wI32, wI16, wI8, wU8, List.length_map, Int.toNat_natCast, natadd', Int.toNat_natCast, Int.toNat_zero, List.drop_zero, Nat.sub_zero, ← List.map_drop, ← List.map_take, hd1, hd2]; rfl)
      refine ga1 ?_ (hpre := by refine ⟨?_, ?_, ?_, ?_, ?_, ?_, ?_⟩ <;> first | trivial | rfl | exact Nat.le_of_ble_eq_true rfl | (intro h; cases h; done) | (simp only [List.length_map, List.length_append, List.length_cons, List.length_nil, List.length_take, List.length_drop]; omega)) (hst := by simp +decide (disch := omega) only [nrm, lk_nrm, dc_nrm, mk_nrm, mf_nrm, ti_nrm, ls_nrm, mp_nrm, nb_nrm, hset, pick_and, pick_or, ↓reduceIte, Nat.reduceAdd, wI64, wI32, wI16, wI8, wU8, List.length_map, Int.toNat_natCast, kl_nrm, ← List.map_append, List.nil_append, ← List.map_drop, ← List.map_take, hd3]; rfl)
      refine g1 ?_
      refine awp_seq ?_
      refine r1 T0_ok hP hm hN ?_
      refine g1 ?_
      refine g1 ?_
      refine g1 ?_
      refine g1 ?_
      refine g1 ?_ (hpre := by exact ⟨rfl, by omega, by (try simp only [List.length_map, List.length_append, List.length_take, List.length_drop]); omega, by (try simp only [List.length_map, List.length_append, List.length_take, List.length_drop]); omega⟩) (hst := by simp +decide (disch := omega) only [nrm, lk_nrm, dc_nrm, mk_nrm, mf_nrm, ti_nrm, ls_nrm, mp_nrm, nb_nrm, hset, pick_and, pick_or, ↓reduceIte, Nat.reduceAdd, wI64, wI32, wI16, wI8, wU8, List.length_map, Int.toNat_natCast, natadd', Int.toNat_natCast, Int.toNat_zero, List.drop_zero, Nat.sub_zero, ← List.map_drop, ← List.map_take, hd1, hd2]; rfl)
      refine ga1 ?_ (hpre := by refine ⟨?_, ?_, ?_, ?_, ?_, ?_, ?_⟩ <;> first | trivial | rfl | exact Nat.le_of_ble_eq_true rfl | (intro h; cases h; done) | (simp only [List.length_map, List.length_append, List.length_cons, List.length_nil, List.length_take, List.length_drop]; omega)) (hst := by simp +decide (disch := omega) only [nrm, lk_nrm, dc_nrm, mk_nrm, mf_nrm, ti_nrm, ls_nrm, mp_nrm, nb_nrm, hset, pick_and, pick_or, ↓reduceIte, Nat.reduceAdd, wI64, wI32, wI16, wI8, wU8, List.length_map, Int.toNat_natCast, kl_nrm, ← List.map_append, List.nil_append, ← List.map_drop, ← List.map_take, hd3]; rfl)
      refine g1 ?_
      refine awp_seq ?_
      refine r1 T0_ok hP hm hN ?_
      refine g1 ?_
      refine g1 ?_
      refine g1 ?_
      refine g1 ?_
      refine g1 ?_ (hpre := by exact ⟨rfl, by omega, by (try simp only [List.length_map, List.length_append, List.length_take, List.length_drop]); omega, by (try simp only [List.length_map, List.length_append, List.length_take, List.length_drop]); omega⟩) (hst := by simp +decide (disch := omega) only [nrm, lk_nrm, dc_nrm, mk_nrm, mf_nrm, ti_nrm, ls_nrm, mp_nrm, nb_nrm, hset, pick_and, pick_or, ↓reduceIte, Nat.reduceAdd, wI64, wI32, wI16, wI8, wU8, List.length_map, Int.toNat_natCast, natadd', Int.toNat_natCast, Int.toNat_zero, List.drop_zero, Nat.sub_zero, ← List.map_drop, ← List.map_take, hd1, hd2, List.length_append, hf1, hf2]; rfl)
      refine ga1 ?_ (hpre := by refine ⟨?_, ?_, ?_, ?_, ?_, ?_, ?_⟩ <;> first | trivial | rfl | exact Nat.le_of_ble_eq_true rfl | (intro h; cases h; done) | (simp only [List.length_map, List.length_append, List.length_cons, List.length_nil, List.length_take, List.length_drop]; omega)) (hst := by simp +decide (disch := omega) only [nrm, lk_nrm, dc_nrm, mk_nrm, mf_nrm, ti_nrm, ls_nrm, mp_nrm, nb_nrm, hset, pick_and, pick_or, ↓reduceIte, Nat.reduceAdd, wI64, wI32, wI16, wI8, wU8, List.length_map, Int.toNat_natCast, kl_nrm, ← List.map_append, List.nil_append, ← List.map_drop, ← List.map_take, hd3]; rfl)
      refine g1 ?_
      refine awp_ret ?_
      refine fin_mk [2] rfl rfl ?_ (objs_cons rfl rfl rfl rfl rfl (.inl rfl) objs_nil) (by decide)
      rfl
    refine ⟨⟨_, rfl, rfl, ?_⟩, trivial⟩
    refine g1 ?_ (hpre := by exact ⟨rfl, by omega, by (try simp only [List.length_map, List.length_append, List.length_take, List.length_drop]); omega, by (try simp only [List.length_map, List.length_append, List.length_take, List.length_drop]); omega⟩) (hst := by simp +decide (disch := omega) only [nrm, lk_nrm, dc_nrm, mk_nrm, mf_nrm, ti_nrm, ls_nrm, mp_nrm, nb_nrm, hset, pick_and, pick_or, ↓reduceIte, Nat.reduceAdd, wI64, wI32, wI16, wI8, wU8, List.length_map, Int.toNat_natCast, natadd', Int.toNat_natCast, Int.toNat_zero, List.drop_zero, Nat.sub_zero, ← List.map_drop, ← List.map_take, hd1, hd2]; rfl)
    refine anyS_cons T0_ok hP hm hN (by rfl) [0] (by rfl) rfl ?_
    refine ⟨⟨_, rfl, rfl, ?_⟩, trivial⟩
    refine g1 ?_ (hst := by simp +decide (disch := omega) only [nrm, lk_nrm, dc_nrm, mk_nrm, mf_nrm, ti_nrm, ls_nrm, mp_nrm, nb_nrm, hset, pick_and, pick_or, ↓reduceIte, Nat.reduceAdd, wI64, wI32, wI16, wI8, wU8, List.length_map, Int.toNat_natCast, List.all_nil, Bool.not_true]; rfl)
    refine anyS_cons T0_ok hP hm hN (by rfl) [4] (by rfl) rfl ?_
    refine ⟨⟨_, rfl, rfl, ?_⟩, trivial⟩
    refine ga1 ?_ (hpre := by refine ⟨?_, ?_, ?_, ?_, ?_, ?_, ?_⟩ <;> first | trivial | rfl | exact Nat.le_of_ble_eq_true rfl | (intro h; cases h; done) | (simp only [List.length_map, List.length_append, List.length_cons, List.length_nil, List.length_take, List.length_drop]; omega)) (hst := by simp +decide (disch := omega) only [nrm, lk_nrm, dc_nrm, mk_nrm, mf_nrm, ti_nrm, ls_nrm, mp_nrm, nb_nrm, hset, pick_and, pick_or, ↓reduceIte, Nat.reduceAdd, wI64, wI32, wI16, wI8, wU8, List.length_map, Int.toNat_natCast, kl_nrm, ← List.map_append, List.nil_append, ← List.map_drop, ← List.map_take, hd3]; rfl)
    refine anyS_cons T0_ok hP hm hN (by rfl) [8] (by rfl) rfl ?_
    refine ⟨⟨_, rfl, rfl, ?_⟩, trivial⟩
    refine ga1 ?_ (hpre := by refine ⟨?_, ?_, ?_, ?_, ?_, ?_, ?_⟩ <;> first | trivial | rfl | exact Nat.le_of_ble_eq_true rfl | (intro h; cases h; done) | (simp only [List.length_map, List.length_append, List.length_cons, List.length_nil, List.length_take, List.length_drop]; omega)) (hst := by simp +decide (disch := omega) only [nrm, lk_nrm, dc_nrm, mk_nrm, mf_nrm, ti_nrm, ls_nrm, mp_nrm, nb_nrm, hset, pick_and, pick_or, ↓reduceIte, Nat.reduceAdd, wI64, wI32, wI16, wI8, wU8, List.length_map, Int.toNat_natCast, kl_nrm, ← List.map_append, List.nil_append, ← List.map_drop, ← List.map_take, hd3]; rfl)
    refine anyS_cons T0_ok hP hm hN (by rfl) [9] (by rfl) rfl ?_
    refine ⟨⟨_, rfl, rfl, ?_⟩, trivial⟩
    refine g1 ?_
    refine anyS_done (by rfl) ?_
    refine awp_seq ?_
    refine r1 T0_ok hP hm hN ?_
    refine g1 ?_ (hst := by simp +decide (disch := omega) only [nrm, lk_nrm, dc_nrm, mk_nrm, mf_nrm, ti_nrm, ls_nrm, mp_nrm, nb_nrm, hset, pick_and, pick_or, ↓reduceIte, Nat.reduceAdd, wI64, wI32, wI16, wI8, wU8, List.length_map, Int.toNat_natCast, List.all_nil, Bool.not_true]; rfl)
    refine g1 ?_
    refine g1 ?_
    refine g1 ?_
    refine g1 ?_ (hpre := by exact ⟨rfl, by omega, by (try simp only [List.length_map, List.length_append, List.length_take, List.length_drop]); omega, by (try simp only [List.length_map, List.length_append, List.length_take, List.length_drop]); omega⟩) (hst := by simp +decide (disch := omega) only [nrm, lk_nrm, dc_nrm, mk_nrm, mf_nrm, ti_nrm, ls_nrm, mp_nrm, nb_nrm, hset, pick_and, pick_or, ↓reduceIte, Nat.reduceAdd, wI64, wI32, wI16, wI8, wU8, List.length_map, Int.toNat_natCast, natadd', Int.toNat_natCast, Int.toNat_zero, List.drop_zero, Nat.sub_zero, ← List.map_drop, ← List.map_take, hd1, hd2]; rfl)
    refine ga1 ?_ (hpre := by refine ⟨?_, ?_, ?_, ?_, ?_, ?_, ?_⟩ <;> first | trivial | rfl | exact Nat.le_of_ble_eq_true rfl | (intro h; cases h; done) | (simp only [List.length_map, List.length_append, List.length_cons, List.length_nil, List.length_take, List.length_drop]; omega)) (hst := by simp +decide (disch := omega) only [nrm, lk_nrm, dc_nrm, mk_nrm, mf_nrm, ti_nrm, ls_nrm, mp_nrm, nb_nrm, hset, pick_and, pick_or, ↓reduceIte, Nat.reduceAdd, wI64, wI32, wI16, wI8, wU8, List.length_map, Int.toNat_natCast, kl_nrm, ← List.map_append, List.nil_append, ← List.map_drop, ← List.map_take, hd3]; rfl)
    refine g1 ?_
    refine awp_seq ?_
    refine r1 T0_ok hP hm hN ?_
    refine g1 ?_
    refine g1 ?_
    refine g1 ?_
    refine g1 ?_
    refine g1 ?_ (hpre := by exact ⟨rfl, by omega, by (try simp only [List.length_map, List.length_append, List.length_take, List.length_drop]); omega, by (try simp only [List.length_map, List.length_append, List.length_take, List.length_drop]); omega⟩) (hst := by simp +decide (disch := omega) only [nrm, lk_nrm, dc_nrm, mk_nrm, mf_nrm, ti_nrm, ls_nrm, mp_nrm, nb_nrm, hset, pick_and, pick_or, ↓reduceIte, Nat.reduceAdd, wI64, wI32, wI16, wI8, wU8, List.length_map, Int.toNat_natCast, natadd', Int.toNat_natCast, Int.toNat_zero, List.drop_zero, Nat.sub_zero, ← List.map_drop, ← List.map_take, hd1, hd2]; rfl)
    refine ga1 ?_ (hpre := by refine ⟨?_, ?_, ?_, ?_, ?_, ?_, ?_⟩ <;> first | trivial | rfl | exact Nat.le_of_ble_eq_true rfl | (intro h; cases h; done) | (simp only [List.length_map, List.length_append, List.length_cons, List.length_nil, List.length_take, List.length_drop]; omega)) (hst := by simp +decide (disch := omega) only [nrm, lk_nrm, dc_nrm, mk_nrm, mf_nrm, ti_nrm, ls_nrm, mp_nrm, nb_nrm, hset, pick_and, pick_or, ↓reduceIte, Nat.reduceAdd, wI64, wI32, wI16, wI8, wU8, List.length_map, Int.toNat_natCast, kl_nrm, ← List.map_append, List.nil_append, ← List.map_drop, ← List.map_take, hd3]; rfl)
    refine g1 ?_
    refine awp_seq ?_
    refine r1 T0_ok hP hm hN ?_
    refine g1 ?_
    refine g1 ?_
    refine g1 ?_
    refine g1 ?_
    refine g1 ?_ (hpre := by exact ⟨rfl, by omega, by (try simp only [List.length_map, List.length_append, List.length_take, List.length_drop]); omega, by (try simp only [List.length_map, List.length_append, List.length_take, List.length_drop]); omega⟩) (hst := by simp +decide (disch := omega) only [nrm, lk_nrm, dc_nrm, mk_nrm, mf_nrm, ti_nrm, ls_nrm, mp_nrm, nb_nrm, hset, pick_and, pick_or, ↓reduceIte, Nat.reduceAdd, wI64, wI32, wI16, wI8, wU8, List.length_map, Int.toNat_natCast, natadd', Int.toNat_natCast, Int.toNat_zero, List.drop_zero, Nat.sub_zero, ← List.map_drop, ← List.map_take, hd1, hd2, List.length_append, hf1, hf2]; rfl)
    refine ga1 ?_ (hpre := by refine ⟨?_, ?_, ?_, ?_, ?_, ?_, ?_⟩ <;> first | trivial | rfl | exact Nat.le_of_ble_eq_true rfl | (intro h; cases h; done) | (simp only [List.length_map, List.length_append, List.length_cons, List.length_nil, List.length_take, List.length_drop]; omega)) (hst := by simp +decide (disch := omega) only [nrm, lk_nrm, dc_nrm, mk_nrm, mf_nrm, ti_nrm, ls_nrm, mp_nrm, nb_nrm, hset, pick_and, pick_or, ↓reduceIte, Nat.reduceAdd, wI64, wI32, wI16, wI8, wU8, List.length_map, Int.toNat_natCast, kl_nrm, ← List.map_append, List.nil_append, ← List.map_drop, ← List.map_take, hd3]; rfl)
    refine g1 ?_
    refine awp_ret ?_
    refine fin_mk [2] rfl rfl ?_ (objs_cons rfl rfl rfl rfl rfl (.inl rfl) objs_nil) (by decide)
    rfl
  refine ⟨⟨_, rfl, rfl, ?_⟩, trivial⟩
  refine g1 ?_ (hpre := by exact ⟨rfl, by omega, by (try simp only [List.length_map, List.length_append, List.length_take, List.length_drop]); omega, by (try simp only [List.length_map, List.length_append, List.length_take, List.length_drop]); omega⟩) (hst := by simp +decide (disch := omega) only [nrm, lk_nrm, dc_nrm, mk_nrm, mf_nrm, ti_nrm, ls_nrm, mp_nrm, nb_nrm, hset, pick_and, pick_or, ↓reduceIte, Nat.reduceAdd, wI64, wI32, wI16, wI8, wU8, List.length_map, Int.toNat_natCast, natadd', Int.toNat_natCast, Int.toNat_zero, List.drop_zero, Nat.sub_zero, ← List.map_drop, ← List.map_take, hd1, hd2]; rfl)
  refine anyS_cons T0_ok hP hm hN (by rfl) [0, 3] (by rfl) rfl ?_
  refine ⟨⟨_, rfl, rfl, ?_⟩, ?_⟩
  · skip
    refine g1 ?_ (hst := by simp +decide (disch := omega) only [nrm, lk_nrm, dc_nrm, mk_nrm, mf_nrm, ti_nrm, ls_nrm, mp_nrm, nb_nrm, hset, pick_and, pick_or, ↓reduceIte, Nat.reduceAdd, wI64, wI32, wI16, wI8, wU8, List.length_map, Int.toNat_natCast, List.all_nil, Bool.not_true]; rfl)
    refine anyS_cons T0_ok hP hm hN (by rfl) [3] (by rfl) rfl ?_
    refine ⟨⟨_, rfl, rfl, ?_⟩, trivial⟩
    refine g1 ?_ (hpre := by exact ⟨rfl, by omega, by (try simp only [List.length_map, List.length_append, List.length_take, List.length_drop]); omega, by (try simp only [List.length_map, List.length_append, List.length_take, List.length_drop]); omega⟩) (hst := by simp +decide (disch := omega) only [nrm, lk_nrm, dc_nrm, mk_nrm, mf_nrm, ti_nrm, ls_nrm, mp_nrm, nb_nrm, hset, pick_and, pick_or, ↓reduceIte, Nat.reduceAdd, wI64, wI32, wI16, wI8, wU8, List.length_map, Int.toNat_natCast, natadd', Int.toNat_natCast, Int.toNat_zero, List.drop_zero, Nat.sub_zero, ← List.map_drop, ← List.map_take, hd1, hd2]; rfl)
    refine anyS_cons T0_ok hP hm hN (by rfl) [4] (by rfl) rfl ?_
    refine ⟨⟨_, rfl, rfl, ?_⟩, trivial⟩
    refine ga1 ?_ (hpre := by refine ⟨?_, ?_, ?_, ?_, ?_, ?_, ?_⟩ <;> first | trivial | rfl | exact Nat.le_of_ble_eq_true rfl | (intro h; cases h; done) | (simp only [List.length_map, List.length_append, List.length_cons, List.length_nil, List.length_take, List.length_drop]; omega)) (hst := by simp +decide (disch := omega) only [nrm, lk_nrm, dc_nrm, mk_nrm, mf_nrm, ti_nrm, ls_nrm, mp_nrm, nb_nrm, hset, pick_and, pick_or, ↓reduceIte, Nat.reduceAdd, wI64, wI32, wI16, wI8, wU8, List.length_map, Int.toNat_natCast, kl_nrm, ← List.map_append, List.nil_append, ← List.map_drop, ← List.map_take, hd3]; rfl)
    refine anyS_cons T0_ok hP hm hN (by rfl) [8] (by rfl) rfl ?_
    refine ⟨⟨_, rfl, rfl, ?_⟩, trivial⟩
    refine ga1 ?_ (hpre := by refine ⟨?_, ?_, ?_, ?_, ?_, ?_, ?_⟩ <;> first | trivial | rfl | exact Nat.le_of_ble_eq_true rfl | (intro h; cases h; done) | (simp only [List.length_map, List.length_append, List.length_cons, List.length_nil, List.length_take, List.length_drop]; omega)) (hst := by simp +decide (disch := omega) only [nrm, lk_nrm, dc_nrm, mk_nrm, mf_nrm, ti_nrm, ls_nrm, mp_nrm, nb_nrm, hset, pick_and, pick_or, ↓reduceIte, Nat.reduceAdd, wI64, wI32, wI16, wI8, wU8, List.length_map, Int.toNat_natCast, kl_nrm, ← List.map_append, List.nil_append, ← List.map_drop, ← List.map_take, hd3]; rfl)
    refine anyS_cons T0_ok hP hm hN (by rfl) [9] (by rfl) rfl ?_
    refine ⟨⟨_, rfl, rfl, ?_⟩, trivial⟩
    refine g1 ?_
    refine anyS_done (by rfl) ?_
    refine awp_seq ?_
    refine r1 T0_ok hP hm hN ?_
    refine g1 ?_ (hst := by simp +decide (disch := omega) only [nrm, lk_nrm, dc_nrm, mk_nrm, mf_nrm, ti_nrm, ls_nrm, mp_nrm, nb_nrm, hset, pick_and, pick_or, ↓reduceIte, Nat.reduceAdd, wI64, wI32, wI16, wI8, wU8, List.length_map, Int.toNat_natCast, List.all_nil, Bool.not_true]; rfl)
    refine g1 ?_
    refine g1 ?_
    refine g1 ?_
    refine g1 ?_ (hpre := by exact ⟨rfl, by omega, by (try simp only [List.length_map, List.length_append, List.length_take, List.length_drop]); omega, by (try simp only [List.length_map, List.length_append, List.length_take, List.length_drop]); omega⟩) (hst := by simp +decide (disch := omega) only [nrm, lk_nrm, dc_nrm, mk_nrm, mf_nrm, ti_nrm, ls_nrm, mp_nrm, nb_nrm, hset, pick_and, pick_or, ↓reduceIte, Nat.reduceAdd, wI64, wI32, wI16, wI8, wU8, List.length_map, Int.toNat_natCast, natadd', Int.toNat_natCast, Int.toNat_zero, List.drop_zero, Nat.sub_zero, ← List.map_drop, ← List.map_take, hd1, hd2]; rfl)
    refine ga1 ?_ (hpre := by refine ⟨?_, ?_, ?_, ?_, ?_, ?_, ?_⟩ <;> first | trivial | rfl | exact Nat.le_of_ble_eq_true rfl | (intro h; cases h; done) | (simp only [List.length_map, List.length_append, List.length_cons, List.length_nil, List.length_take, List.length_drop]; omega)) (hst := by simp +decide (disch := omega) only [nrm, lk_nrm, dc_nrm, mk_nrm, mf_nrm, ti_nrm, ls_nrm, mp_nrm, nb_nrm, hset, pick_and, pick_or, ↓reduceIte, Nat.reduceAdd, wI64, wI32, wI16, wI8, wU8, List.length_map, Int.toNat_natCast, kl_nrm, ← List.map_append, List.nil_append, ← List.map_drop, ← List.map_take, hd3]; rfl)
    refine g1 ?_
    refine awp_seq ?_
    refine r1 T0_ok hP hm hN ?_
    refine g1 ?_
    refine g1 ?_
    refine g1 ?_
    refine g1 ?_
    refine g1 ?_ (hpre := by exact ⟨rfl, by omega, by (try simp only [List.length_map, List.length_append, List.length_take, List.length_drop]); omega, by (try simp only [List.length_map, List.length_append, List.length_take, List.length_drop]); omega⟩) (hst := by simp +decide (disch := omega) only [nrm, lk_nrm, dc_nrm, mk_nrm, mf_nrm, ti_nrm, ls_nrm, mp_nrm, nb_nrm, hset, pick_and, pick_or, ↓reduceIte, Nat.reduceAdd, wI64, wI32, wI16, wI8, wU8, List.length_map, Int.toNat_natCast, natadd', Int.toNat_natCast, Int.toNat_zero, List.drop_zero, Nat.sub_zero, ← List.map_drop, ← List.map_take, hd1, hd2]; rfl)
    refine ga1 ?_ (hpre := by refine ⟨?_, ?_, ?_, ?_, ?_, ?_, ?_⟩ <;> first | trivial | rfl | exact Nat.le_of_ble_eq_true rfl | (intro h; cases h; done) | (simp only [List.length_map, List.length_append, List.length_cons, List.length_nil, List.length_take, List.length_drop]; omega)) (hst := by simp +decide (disch := omega) only [nrm, lk_nrm, dc_nrm, mk_nrm, mf_nrm, ti_nrm, ls_nrm, mp_nrm, nb_nrm, hset, pick_and, pick_or, ↓reduceIte, Nat.reduceAdd, wI64, wI32, wI16, wI8, wU8, List.length_map, Int.toNat_natCast, kl_nrm, ← List.map_append, List.nil_append, ← List.map_drop, ← List.map_take, hd3]; rfl)
    refine g1 ?_
    refine awp_seq ?_
    refine r1 T0_ok hP hm hN ?_
    refine g1 ?_
    refine g1 ?_
    refine g1 ?_
    refine g1 ?_
    refine g1 ?_ (hpre := by exact ⟨rfl, by omega, by (try simp only [List.length_map, List.length_append, List.length_take, List.length_drop]); omega, by (try simp only [List.length_map, List.length_append, List.length_take, List.length_drop]); omega⟩) (hst := by simp +decide (disch := omega) only [nrm, lk_nrm, dc_nrm, mk_nrm, mf_nrm, ti_nrm, ls_nrm, mp_nrm, nb_nrm, hset, pick_and, pick_or, ↓reduceIte, Nat.reduceAdd, wI64, wI32, wI16, wI8, wU8, List.length_map, Int.toNat_natCast, natadd', Int.toNat_natCast, Int.toNat_zero, List.drop_zero, Nat.sub_zero, ← List.map_drop, ← List.map_take, hd1, hd2, List.length_append, hf1, hf2]; rfl)
    refine ga1 ?_ (hpre := by refine ⟨?_, ?_, ?_, ?_, ?_, ?_, ?_⟩ <;> first | trivial | rfl | exact Nat.le_of_ble_eq_true rfl | (intro h; cases h; done) | (simp only [List.length_map, List.length_append, List.length_cons, List.length_nil, List.length_take, List.length_drop]; omega)) (hst := by simp +decide (disch := omega) only [nrm, lk_nrm, dc_nrm, mk_nrm, mf_nrm, ti_nrm, ls_nrm, mp_nrm, nb_nrm, hset, pick_and, pick_or, ↓reduceIte, Nat.reduceAdd, wI64, wI32, wI16, wI8, wU8, List.length_map, Int.toNat_natCast, kl_nrm, ← List.map_append, List.nil_append, ← List.map_drop, ← List.map_take, hd3]; rfl)
    refine g1 ?_
    refine awp_ret ?_
    refine fin_mk [2] rfl rfl ?_ (objs_cons rfl rfl rfl rfl rfl (.inl rfl) objs_nil) (by decide)
    rfl
  refine ⟨⟨_, rfl, rfl, ?_⟩, trivial⟩
  refine g1 ?_ (hpre := by exact ⟨rfl, by omega, by (try simp only [List.length_map, List.length_append, List.length_take, List.length_drop]); omega, by (try simp only [List.length_map, List.length_append, List.length_take, List.length_drop]); omega⟩) (hst := by simp +decide (disch := omega) only [nrm, lk_nrm, dc_nrm, mk_nrm, mf_nrm, ti_nrm, ls_nrm, mp_nrm, nb_nrm, hset, pick_and, pick_or, ↓reduceIte, Nat.reduceAdd, wI64, wI32, wI16, wI8, wU8, List.length_map, Int.toNat_natCast, natadd', Int.toNat_natCast, Int.toNat_zero, List.drop_zero, Nat.sub_zero, ← List.map_drop, ← List.map_take, hd1, hd2]; rfl)
  refine anyS_cons T0_ok hP hm hN (by rfl) [0] (by rfl) rfl ?_
  refine ⟨⟨_, rfl, rfl, ?_⟩, trivial⟩
  refine g1 ?_ (hst := by simp +decide (disch := omega) only [nrm, lk_nrm, dc_nrm, mk_nrm, mf_nrm, ti_nrm, ls_nrm, mp_nrm, nb_nrm, hset, pick_and, pick_or, ↓reduceIte, Nat.reduceAdd, wI64, wI32, wI16, wI8, wU8, List.length_map, Int.toNat_natCast, List.all_nil, Bool.not_true]; rfl)
  refine anyS_cons T0_ok hP hm hN (by rfl) [4] (by rfl) rfl ?_
  refine ⟨⟨_, rfl, rfl, ?_⟩, trivial⟩
  refine ga1 ?_ (hpre := by refine ⟨?_, ?_, ?_, ?_, ?_, ?_, ?_⟩ <;> first | trivial | rfl | exact Nat.le_of_ble_eq_true rfl | (intro h; cases h; done) | (simp only [List.length_map, List.length_append, List.length_cons, List.length_nil, List.length_take, List.length_drop]; omega)) (hst := by simp +decide (disch := omega) only [nrm, lk_nrm, dc_nrm, mk_nrm, mf_nrm, ti_nrm, ls_nrm, mp_nrm, nb_nrm, hset, pick_and, pick_or, ↓reduceIte, Nat.reduceAdd, wI64, wI32, wI16, wI8, wU8, List.length_map, Int.toNat_natCast, kl_nrm, ← List.map_append, List.nil_append, ← List.map_drop, ← List.map_take, hd3]; rfl)
  refine anyS_cons T0_ok hP hm hN (by rfl) [8] (by rfl) rfl ?_
  refine ⟨⟨_, rfl, rfl, ?_⟩, trivial⟩
  refine ga1 ?_ (hpre := by refine ⟨?_, ?_, ?_, ?_, ?_, ?_, ?_⟩ <;> first | trivial | rfl | exact Nat.le_of_ble_eq_true rfl | (intro h; cases h; done) | (simp only [List.length_map, List.length_append, List.length_cons, List.length_nil, List.length_take, List.length_drop]; omega)) (hst := by simp +decide (disch := omega) only [nrm, lk_nrm, dc_nrm, mk_nrm, mf_nrm, ti_nrm, ls_nrm, mp_nrm, nb_nrm, hset, pick_and, pick_or, ↓reduceIte, Nat.reduceAdd, wI64, wI32, wI16, wI8, wU8, List.length_map, Int.toNat_natCast, kl_nrm, ← List.map_append, List.nil_append, ← List.map_drop, ← List.map_take, hd3]; rfl)
  refine anyS_cons T0_ok hP hm hN (by rfl) [9] (by rfl) rfl ?_
  refine ⟨⟨_, rfl, rfl, ?_⟩, trivial⟩
  refine g1 ?_
  refine anyS_done (by rfl) ?_
  refine awp_seq ?_
  refine r1 T0_ok hP hm hN ?_
  refine g1 ?_ (hst := by simp +decide (disch := omega) only [nrm, lk_nrm, dc_nrm, mk_nrm, mf_nrm, ti_nrm, ls_nrm, mp_nrm, nb_nrm, hset, pick_and, pick_or, ↓reduceIte, Nat.reduceAdd, wI64, wI32, wI16, wI8, wU8, List.length_map, Int.toNat_natCast, List.all_nil, Bool.not_true]; rfl)
  refine g1 ?_
  refine g1 ?_
  refine g1 ?_
  refine g1 ?_ (hpre := by exact ⟨rfl, by omega, by (try simp only [List.length_map, List.length_append, List.length_take, List.length_drop]); omega, by (try simp only [List.length_map, List.length_append, List.length_take, List.length_drop]); omega⟩) (hst := by simp +decide (disch := omega) only [nrm, lk_nrm, dc_nrm, mk_nrm, mf_nrm, ti_nrm, ls_nrm, mp_nrm, nb_nrm, hset, pick_and, pick_or, ↓reduceIte, Nat.reduceAdd, wI64, wI32, wI16, wI8, wU8, List.length_map, Int.toNat_natCast, natadd', Int.toNat_natCast, Int.toNat_zero, List.drop_zero, Nat.sub_zero, ← List.map_drop, ← List.map_take, hd1, hd2]; rfl)
  refine ga1 ?_ (hpre := by refine ⟨?_, ?_, ?_, ?_, ?_, ?_, ?_⟩ <;> first | trivial | rfl | exact Nat.le_of_ble_eq_true rfl | (intro h; cases h; done) | (simp only [List.length_map, List.length_append, List.length_cons, List.length_nil, List.length_take, List.length_drop]; omega)) (hst := by simp +decide (disch := omega) only [nrm, lk_nrm, dc_nrm, mk_nrm, mf_nrm, ti_nrm, ls_nrm, mp_nrm, nb_nrm, hset, pick_and, pick_or, ↓reduceIte, Nat.reduceAdd, wI64, wI32, wI16, wI8, wU8, List.length_map, Int.toNat_natCast, kl_nrm, ← List.map_append, List.nil_append, ← List.map_drop, ← List.map_take, hd3]; rfl)
  refine g1 ?_
  refine awp_seq ?_
  refine r1 T0_ok hP hm hN ?_
  refine g1 ?_
  refine g1 ?_
  refine g1 ?_
  refine g1 ?_
  refine g1 ?_ (hpre := by exact ⟨rfl, by omega, by (try simp only [List.length_map, List.length_append, List.length_take, List.length_drop]); omega, by (try simp only [List.length_map, List.length_append, List.length_take, List.length_drop]); omega⟩) (hst := by simp +decide (disch := omega) only [nrm, lk_nrm, dc_nrm, mk_nrm, mf_nrm, ti_nrm, ls_nrm, mp_nrm, nb_nrm, hset, pick_and, pick_or, ↓reduceIte, Nat.reduceAdd, wI64, wI32, wI16, wI8, wU8, List.length_map, Int.toNat_natCast, natadd', Int.toNat_natCast, Int.toNat_zero, List.drop_zero, Nat.sub_zero, ← List.map_drop, ← List.map_take, hd1, hd2]; rfl)
  refine ga1 ?_ (hpre := by refine ⟨?_, ?_, ?_, ?_, ?_, ?_, ?_⟩ <;> first | trivial | rfl | exact Nat.le_of_ble_eq_true rfl | (intro h; cases h; done) | (simp only [List.length_map, List.length_append, List.length_cons, List.length_nil, List.length_take, List.length_drop]; omega)) (hst := by simp +decide (disch := omega) only [nrm, lk_nrm, dc_nrm, mk_nrm, mf_nrm, ti_nrm, ls_nrm, mp_nrm, nb_nrm, hset, pick_and, pick_or, ↓reduceIte, Nat.reduceAdd, wI64, wI32, wI16, wI8, wU8, List.length_map, Int.toNat_natCast, kl_nrm, ← List.map_append, List.nil_append, ← List.map_drop, ← List.map_take, hd3]; rfl)
  refine g1 ?_
  refine awp_seq ?_
  refine r1 T0_ok hP hm hN ?_
  refine g1 ?_
  refine g1 ?_
  refine g1 ?_
  refine g1 ?_
  refine g1 ?_ (hpre := by exact ⟨rfl, by omega, by (try simp only [List.length_map, List.length_append, List.length_take, List.length_drop]); omega, by (try simp only [List.length_map, List.length_append, List.length_take, List.length_drop]); omega⟩) (hst := by simp +decide (disch := omega) only [nrm, lk_nrm, dc_nrm, mk_nrm, mf_nrm, ti_nrm, ls_nrm, mp_nrm, nb_nrm, hset, pick_and, pick_or, ↓reduceIte, Nat.reduceAdd, wI64, wI32, wI16, wI8, wU8, List.length_map, Int.toNat_natCast, natadd', Int.toNat_natCast, Int.toNat_zero, List.drop_zero, Nat.sub_zero, ← List.map_drop, ← List.map_take, hd1, hd2, List.length_append, hf1, hf2]; rfl)
  refine ga1 ?_ (hpre := by refine ⟨?_, ?_, ?_, ?_, ?_, ?_, ?_⟩ <;> first | trivial | rfl | exact Nat.le_of_ble_eq_true rfl | (intro h; cases h; done) | (simp only [List.length_map, List.length_append, List.length_cons, List.length_nil, List.length_take, List.length_drop]; omega)) (hst := by simp +decide (disch := omega) only [nrm, lk_nrm, dc_nrm, mk_nrm, mf_nrm, ti_nrm, ls_nrm, mp_nrm, nb_nrm, hset, pick_and, pick_or, ↓reduceIte, Nat.reduceAdd, wI64, wI32, wI16, wI8, wU8, List.length_map, Int.toNat_natCast, kl_nrm, ← List.map_append, List.nil_append, ← List.map_drop, ← List.map_take, hd3]; rfl)
  refine g1 ?_
  refine awp_ret ?_
  refine fin_mk [2] rfl rfl ?_ (objs_cons rfl rfl rfl rfl rfl (.inl rfl) objs_nil) (by decide)
  rfl
end Go.Proofs.Ytkfbpfkomppefaa.Abs
