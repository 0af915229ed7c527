import Derived.Test.YtoincpeodnmfmaaDoorW4
import Derived.Test.YtoincpeodnmfmaaDoorShelf
set_option linter.unusedVariables false
set_option linter.unusedSimpArgs false
namespace Go.Proofs.YtoincpeodnmfmaaDoor.Abs
open Go Go.RowKit
abbrev a3D (x : Int × Int × Int) : D := .val (.agg #[.int .u8 x.1, .int .u8 x.2.1, .int .u8 x.2.2])
/-- The first i of a list, the rest as it was made. -/
def cpyD {α : Type} (d : α) (xs : List α) (i : Nat) : List α := xs.take i ++ List.replicate (xs.length - i) d
theorem cpyD_zero {α : Type} (d : α) (xs : List α) : cpyD d xs 0 = List.replicate xs.length d := by simp [cpyD]
theorem cpyD_len {α : Type} (d : α) (xs : List α) (i : Nat) (h : i ≤ xs.length) : (cpyD d xs i).length = xs.length := by simp [cpyD]; omega
theorem cpyD_all {α : Type} (d : α) (xs : List α) : cpyD d xs xs.length = xs := by simp [cpyD]
theorem cpyD_set {α : Type} (d : α) (xs : List α) (i : Nat) (h : i < xs.length) : (cpyD d xs i).set i (xs.getD i d) = cpyD d xs (i + 1) := by
  unfold cpyD
  apply List.ext_getElem?
  intro j
  rw [List.getElem?_set]
  simp only [List.length_append, List.length_take, List.length_replicate]
  by_cases e : i = j
  · subst e
    rw [if_pos rfl, if_pos (by omega), List.getElem?_append_left (by simp; omega)]
    simp [List.getElem?_take, List.getD, h]
  · rw [if_neg e]
    by_cases h1 : j < i
    · rw [List.getElem?_append_left (by simp; omega), List.getElem?_append_left (by simp; omega)]
      simp [List.getElem?_take, h1, show j < i + 1 by omega]
    · rw [List.getElem?_append_right (by simp; omega), List.getElem?_append_right (by simp; omega)]
      simp only [List.length_take, List.getElem?_replicate]
      by_cases h2 : j < xs.length
      · rw [if_pos (by omega), if_pos (by omega)]
      · rw [if_neg (by omega), if_neg (by omega)]

abbrev Mv := Int × Int
def mv0 : Mv := (0, 0)
abbrev mvRow (p : Mv) : List D := [.val (.int .i16 p.1), .val (.int .i16 p.2)]
abbrev mvD (p : Mv) : D := .val (.agg #[.int .i16 p.1, .int .i16 p.2])
abbrev mvs (xs : List Mv) : List (List D) := xs.map mvRow
theorem mvs_get (xs : List Mv) (i : Nat) (h : i < xs.length) : (mvs xs)[i]? = some (mvRow (xs.getD i mv0)) := map_get mvRow xs i h
theorem mvs_app (xs ys : List Mv) : mvs (xs ++ ys) = mvs xs ++ mvs ys := by simp
theorem mvs_set (xs : List Mv) (i : Nat) (v : Mv) : mvs (xs.set i v) = (mvs xs).set i (mvRow v) := by simp
theorem flat_mvs (ty : TypeId) (sz : Nat) (dp : Bool) (xs : List Mv) : flatO ⟨ty, sz, dp, mvs xs⟩ := flatO_map mvRow (fun a d hd => by simp [mvRow] at hd; rcases hd with rfl | rfl <;> rfl) _ _ _ _

/-- What marking makes of an element. -/
def mk_move (k : Int) : Mv := (IntKind.i16.wrap (k), IntKind.i16.wrap (k + 1))
def mkd_move (n : Nat) (k : Int) : List Mv := (List.range n).map fun (j : Nat) => mk_move (k + 2 * (j : Int))
def mix_move (xs : List Mv) (k : Int) (i : Nat) : List Mv := mkd_move i k ++ xs.drop i
theorem mkd_move_len (n : Nat) (k : Int) : (mkd_move n k).length = n := by simp [mkd_move]
theorem mkd_move_get {n : Nat} {k : Int} {j : Nat} (h : j < n) : (mkd_move n k).getD j mv0 = mk_move (k + 2 * (j : Int)) := by simp [mkd_move, List.getD, h]
theorem mix_move_zero (xs : List Mv) (k : Int) : mix_move xs k 0 = xs := by simp [mix_move, mkd_move]
theorem mix_move_all (xs : List Mv) (k : Int) : mix_move xs k xs.length = mkd_move xs.length k := by simp [mix_move]
theorem mix_move_len (xs : List Mv) (k : Int) {i : Nat} (h : i ≤ xs.length) : (mix_move xs k i).length = xs.length := by simp [mix_move, mkd_move]; omega
theorem mix_move_set (xs : List Mv) (k : Int) {i : Nat} (h : i < xs.length) : (mix_move xs k i).set i (mk_move (k + 2 * (i : Int))) = mix_move xs k (i + 1) := by
  have e : mkd_move (i + 1) k = mkd_move i k ++ [mk_move (k + 2 * (i : Int))] := by simp [mkd_move, List.range_succ]
  unfold mix_move
  rw [e, List.set_append_right _ _ (by simp [mkd_move]), mkd_move_len, Nat.sub_self, List.drop_eq_getElem_cons h, List.set_cons_zero, List.append_assoc]
  rfl
/-- What the check of marks says. -/
noncomputable def heldR_move (xs : List Mv) (k : Int) : Int := if ask (xs = mkd_move xs.length k) then k + 2 * xs.length else -1
theorem heldR_move_no {xs : List Mv} {k : Int} {i : Nat} (hi : i < xs.length) (h : xs.getD i mv0 ≠ mk_move (k + 2 * (i : Int))) : heldR_move xs k = -1 := by
  unfold heldR_move
  rw [ask_false (fun e => h (by rw [e, mkd_move_get hi]))]
  rfl
theorem heldR_move_yes {xs : List Mv} {k : Int} (h : ∀ i, i < xs.length → xs.getD i mv0 = mk_move (k + 2 * (i : Int))) : heldR_move xs k = k + 2 * xs.length := by
  unfold heldR_move
  rw [ask_true (list_ext' (d := mv0) (mkd_move_len _ _).symm (fun j hj => by rw [h j hj, mkd_move_get hj]))]
  rfl
theorem heldR_move_mkd (n : Nat) (k : Int) : heldR_move (mkd_move n k) k = k + 2 * n := by
  rw [heldR_move_yes (fun i hi => by rw [mkd_move_len] at hi; exact mkd_move_get hi), mkd_move_len]

noncomputable abbrev s_L_eqMove : Spec (Mv × Mv) where
  args := fun x => [mvD x.1, mvD x.2]
  res := fun x => .val (.bool (ask (x.1 = x.2)))

set_option maxRecDepth 20000 in
set_option maxHeartbeats 1000000 in
theorem ok_L_eqMove : FnOk Pr 25 s_L_eqMove := by
  refine fn_ok 2 0 T0_ok Go.Proofs.Tryd.func25 rfl (enters_of Go.Proofs.Tryd.func25 rfl rfl) (fun _ => rfl) (fun _ => rfl) (fun _ => rfl) ?_
  rintro ⟨⟨a, b⟩, ⟨c, d⟩⟩ - C hP hN hm hG
  change awp C _ _ ⟨[(0, mvD (a, b)), (1, mvD (c, d))], [], 0⟩
  refine awp_seq ?_
  refine r1 T0_ok hP hm hN ?_
  refine g1 ?_
  refine g1 ?_
  refine g1 ?_
  refine awp_seq ?_
  refine awp_seq ?_
  refine r1 T0_ok hP hm hN ?_
  refine g1 ?_
  refine g1 ?_
  refine g1 ?_
  refine g1 ?_
  refine g1 ?_
  refine awp_cond rfl (fun hc0 => ?_) (fun hc0 => ?_)
  · skip
    refine awp_seq ?_
    refine r1 T0_ok hP hm hN ?_
    refine g1 ?_
    refine awp_ret ?_
    refine fin_mk [] rfl rfl ?_ trivial (by decide)
    show D.val (.bool (ask ((a, b) = (c, d)))) = D.val (.bool false)
    rw [ask_false (fun h => by cases h; simp at hc0)]
  · skip
    refine awp_skip ?_
    refine awp_seq ?_
    refine awp_seq ?_
    refine r1 T0_ok hP hm hN ?_
    refine g1 ?_
    refine g1 ?_
    refine g1 ?_
    refine g1 ?_
    refine g1 ?_
    refine awp_cond rfl (fun hc1 => ?_) (fun hc1 => ?_)
    · skip
      refine awp_seq ?_
      refine r1 T0_ok hP hm hN ?_
      refine g1 ?_
      refine awp_ret ?_
      refine fin_mk [] rfl rfl ?_ trivial (by decide)
      show D.val (.bool (ask ((a, b) = (c, d)))) = D.val (.bool false)
      rw [ask_false (fun h => by cases h; simp at hc1)]
    · skip
      refine awp_skip ?_
      refine awp_seq ?_
      refine r1 T0_ok hP hm hN ?_
      refine g1 ?_
      refine awp_ret ?_
      refine fin_mk [] rfl rfl ?_ trivial (by decide)
      show D.val (.bool (ask ((a, b) = (c, d)))) = D.val (.bool true)
      rw [ask_true (by simp only [bne_eq_false_iff_eq] at hc0 hc1; rw [hc0, hc1])]

noncomputable abbrev s_L_eqMoveS : Spec (List Mv × List Mv) where
  args := fun x => [.sl 2 (mvs x.1), .sl 2 (mvs x.2)]
  pre := fun x => x.1.length ≤ 9223372036854775807 ∧ x.2.length ≤ 9223372036854775807
  res := fun x => .val (.bool (ask (x.1 = x.2)))

set_option maxRecDepth 20000 in
set_option maxHeartbeats 1000000 in
theorem ok_L_eqMoveS : FnOk Pr 7 s_L_eqMoveS := by
  refine fn_ok 2 0 T0_ok Go.Proofs.Tryd.func7 rfl (enters_of Go.Proofs.Tryd.func7 rfl rfl) (fun _ => rfl) (fun _ => rfl) (fun _ => rfl) ?_
  rintro ⟨xs, ys⟩ ⟨hp, hp2⟩ C hP hN hm hG
  change awp C _ _ ⟨[(0, .sl 2 (mvs xs)), (1, .sl 2 (mvs ys))], [], 0⟩
  simp only at hp hp2
  refine awp_seq ?_
  refine r1 T0_ok hP hm hN ?_
  refine g1 ?_
  refine awp_seq ?_
  refine awp_seq ?_
  refine r1 T0_ok hP hm hN ?_
  refine g1 ?_
  refine g1 ?_
  refine g1 ?_
  refine g1 ?_
  refine g1 ?_
  refine awp_cond rfl (fun hc0 => ?_) (fun hc0 => ?_)
  · skip
    refine awp_seq ?_
    refine r1 T0_ok hP hm hN ?_
    refine g1 ?_
    refine awp_ret ?_
    refine fin_mk [] rfl rfl ?_ trivial (by decide)
    show D.val (.bool (ask (xs = ys))) = D.val (.bool false)
    rw [ask_false (fun h => by subst h; simp at hc0)]
  · skip
    have hl : xs.length = ys.length := by simp at hc0; omega
    refine awp_skip ?_
    refine awp_seq ?_
    refine awp_seq ?_
    refine r1 T0_ok hP hm hN ?_
    refine g1 ?_
    refine awp_block ?_
    refine awp_loop (fun n st => ∃ i : Nat, i ≤ xs.length ∧ (∀ j, j < i → xs.getD j mv0 = ys.getD j mv0) ∧ n = xs.length - i ∧ st = ⟨[(5, .val (.int .i64 (i : Nat))), (0, .sl 2 (mvs xs)), (1, .sl 2 (mvs ys))], [], 0⟩) (xs.length) ⟨_, weak_sl (sub_cons rfl (sub_cons rfl (sub_cons rfl (sub_nil)))), 0, by omega, fun j h => by omega, rfl, rfl⟩ ?_
    rintro n st ⟨i, hii, hall, hni, rfl⟩
    refine awp_seq ?_
    refine awp_seq ?_
    refine r1 T0_ok hP hm hN ?_
    refine g1 ?_
    refine g1 ?_
    refine g1 ?_
    refine g1 ?_
    refine awp_cond rfl (fun hc1 => ?_) (fun hc1 => ?_)
    · skip
      have hlti : i < xs.length := by simpa using hc1
      have hgx := mvs_get xs i hlti
      have hgy := mvs_get ys i (by omega)
      refine awp_skip ?_
      refine awp_seq ?_
      refine awp_block ?_
      refine awp_seq ?_
      refine awp_draw T0_ok hP hm hN Pr_mix [0, 1, 2, 3, 4, 5, 6, 7, 8, 9, 10, 11] [8] _ rfl (by rfl) ?_
      refine d1 T0_ok ?_
      refine d1 T0_ok ?_
      refine d1 T0_ok ?_
      refine d1 T0_ok ?_
      refine d1 T0_ok ?_
      refine d1 T0_ok ?_
      refine d1 T0_ok ?_
      refine d1 T0_ok ?_
      refine dp1 ?_ (call1 ok_L_eqMove (_, _) [])
      refine d1 T0_ok ?_
      refine dreg_nil ?_
      refine awp_cond rfl (fun hc2 => ?_) (fun hc2 => ?_)
      · skip
        refine awp_seq ?_
        refine r1 T0_ok hP hm hN ?_
        refine g1 ?_
        refine awp_ret ?_
        refine fin_mk [] rfl rfl ?_ trivial (by decide)
        show D.val (.bool (ask (xs = ys))) = D.val (.bool false)
        rw [ask_false (fun h => by subst h; simp [ask] at hc2)]
      · skip
        refine awp_skip ?_
        refine r1 T0_ok hP hm hN ?_
        refine g1 ?_
        refine g1 ?_
        refine g1 ?_
        refine ⟨xs.length - (i + 1), _, by omega, weak_sl (sub_cons rfl (sub_cons rfl (sub_cons rfl (sub_nil)))), i + 1, by omega, upto_step hall (ask_iff.1 (by simpa using hc2)), rfl, rfl⟩
    · skip
      have hgei : ¬ i < xs.length := by simpa using hc1
      have heqi : i = xs.length := by omega
      refine awp_exit ?_
      repeat refine thenA_exit ?_
      refine blockA_hit ?_
      refine awp_seq ?_
      refine r1 T0_ok hP hm hN ?_
      refine g1 ?_
      refine awp_ret ?_
      refine fin_mk [] rfl rfl ?_ trivial (by decide)
      show D.val (.bool (ask (xs = ys))) = D.val (.bool true)
      rw [ask_true (list_ext' (d := mv0) hl (fun j hj => hall j (by omega)))]

noncomputable abbrev s_L_markMoveS : Spec (List Mv × Int) where
  args := fun x => [.own 0, .val (.int .i64 x.2)]
  pre := fun x => x.1.length ≤ 4611686018427387904 ∧ 0 ≤ x.2 ∧ x.2 + 2 * x.1.length ≤ 4611686018427387904
  obs := fun x => [⟨42, 2, false, mvs x.1⟩]
  out := fun x => [⟨42, 2, false, mvs (mkd_move x.1.length x.2)⟩]
  res := fun x => .val (.int .i64 (x.2 + 2 * x.1.length))

set_option maxRecDepth 20000 in
set_option maxHeartbeats 4000000 in
theorem ok_L_markMoveS : FnOk Pr 8 s_L_markMoveS := by
  refine fn_ok 2 1 T0_ok Go.Proofs.Tryd.func8 rfl (enters_of Go.Proofs.Tryd.func8 rfl rfl) (fun _ => rfl) (fun _ => rfl) (fun _ => rfl) ?_
  rintro ⟨xs, k⟩ ⟨hl, hk0, hk⟩ C hP hN hm hG
  change awp C _ _ ⟨[(0, .own 0), (1, .val (.int .i64 k))], [(0, ⟨42, 2, false, mvs xs⟩)], 1⟩
  simp only at hl hk0 hk
  refine awp_seq ?_
  refine r1 T0_ok hP hm hN ?_
  refine g1 ?_ (hst := by simp +decide (disch := omega) only [nrm, lk_nrm, dc_nrm, mk_nrm, mf_nrm, ti_nrm, ls_nrm, mp_nrm, nb_nrm, hset, pick_and, pick_or, ↓reduceIte, Nat.reduceAdd, wI64, wI32, wI16, wI8, wU8, List.length_map, Int.toNat_natCast, List.set_set]; rfl)
  refine awp_seq ?_
  refine awp_seq ?_
  refine r1 T0_ok hP hm hN ?_
  refine g1 ?_ (hst := by simp +decide (disch := omega) only [nrm, lk_nrm, dc_nrm, mk_nrm, mf_nrm, ti_nrm, ls_nrm, mp_nrm, nb_nrm, hset, pick_and, pick_or, ↓reduceIte, Nat.reduceAdd, wI64, wI32, wI16, wI8, wU8, List.length_map, Int.toNat_natCast, List.set_set]; rfl)
  refine awp_block ?_
  refine awp_loop (fun n st => ∃ i : Nat, i ≤ xs.length ∧ n = xs.length - i ∧ st = ⟨[(5, .val (.int .i64 (i : Nat))), (1, .val (.int .i64 (k + 2 * ((i : Nat) : Int)))), (0, .own 0)], [(0, ⟨42, 2, false, mvs (mix_move xs k i)⟩)], 1⟩) (xs.length) ⟨_, (by rw [mix_move_zero, show k + 2 * ((0 : Nat) : Int) = k by omega]; exact weak_sl (sub_cons rfl (sub_cons rfl (sub_cons rfl (sub_nil))))), 0, by omega, rfl, rfl⟩ ?_
  rintro n st ⟨i, hii, hni, rfl⟩
  have hml := mix_move_len xs k hii
  refine awp_seq ?_
  refine awp_seq ?_
  refine r1 T0_ok hP hm hN ?_
  refine g1 ?_ (hst := by simp +decide (disch := omega) only [nrm, lk_nrm, dc_nrm, mk_nrm, mf_nrm, ti_nrm, ls_nrm, mp_nrm, nb_nrm, hset, pick_and, pick_or, ↓reduceIte, Nat.reduceAdd, wI64, wI32, wI16, wI8, wU8, List.length_map, Int.toNat_natCast, List.set_set]; rfl)
  refine g1 ?_ (hst := by simp +decide (disch := omega) only [nrm, lk_nrm, dc_nrm, mk_nrm, mf_nrm, ti_nrm, ls_nrm, mp_nrm, nb_nrm, hset, pick_and, pick_or, ↓reduceIte, Nat.reduceAdd, wI64, wI32, wI16, wI8, wU8, List.length_map, Int.toNat_natCast, List.set_set]; rfl)
  refine g1 ?_ (hst := by simp +decide (disch := omega) only [nrm, lk_nrm, dc_nrm, mk_nrm, mf_nrm, ti_nrm, ls_nrm, mp_nrm, nb_nrm, hset, pick_and, pick_or, ↓reduceIte, Nat.reduceAdd, wI64, wI32, wI16, wI8, wU8, List.length_map, Int.toNat_natCast, List.set_set]; rfl)
  refine g1 ?_ (hst := by simp +decide (disch := omega) only [nrm, lk_nrm, dc_nrm, mk_nrm, mf_nrm, ti_nrm, ls_nrm, mp_nrm, nb_nrm, hset, pick_and, pick_or, ↓reduceIte, Nat.reduceAdd, wI64, wI32, wI16, wI8, wU8, List.length_map, Int.toNat_natCast, List.set_set]; rfl)
  refine awp_cond rfl (fun hc0 => ?_) (fun hc0 => ?_)
  · skip
    have hlti : i < xs.length := by simp [hml] at hc0; exact hc0
    have hgm := mvs_get (mix_move xs k i) i (by omega)
    refine awp_skip ?_
    refine awp_seq ?_
    refine awp_block ?_
    refine awp_seq ?_
    refine r1 T0_ok hP hm hN ?_
    refine g1 ?_ (hst := by simp +decide (disch := omega) only [nrm, lk_nrm, dc_nrm, mk_nrm, mf_nrm, ti_nrm, ls_nrm, mp_nrm, nb_nrm, hset, pick_and, pick_or, ↓reduceIte, Nat.reduceAdd, wI64, wI32, wI16, wI8, wU8, List.length_map, Int.toNat_natCast, List.set_set]; rfl)
    refine g1 ?_ (hst := by simp +decide (disch := omega) only [nrm, lk_nrm, dc_nrm, mk_nrm, mf_nrm, ti_nrm, ls_nrm, mp_nrm, nb_nrm, hset, pick_and, pick_or, ↓reduceIte, Nat.reduceAdd, wI64, wI32, wI16, wI8, wU8, List.length_map, Int.toNat_natCast, List.set_set]; rfl)
    refine g1 ?_ (hst := by simp +decide (disch := omega) only [nrm, lk_nrm, dc_nrm, mk_nrm, mf_nrm, ti_nrm, ls_nrm, mp_nrm, nb_nrm, hset, pick_and, pick_or, ↓reduceIte, Nat.reduceAdd, wI64, wI32, wI16, wI8, wU8, List.length_map, Int.toNat_natCast, List.set_set]; rfl)
    refine g1 ?_ (hst := by simp +decide (disch := omega) only [nrm, lk_nrm, dc_nrm, mk_nrm, mf_nrm, ti_nrm, ls_nrm, mp_nrm, nb_nrm, hset, pick_and, pick_or, ↓reduceIte, Nat.reduceAdd, wI64, wI32, wI16, wI8, wU8, List.length_map, Int.toNat_natCast, List.set_set]; rfl)
    refine g1 ?_ (hst := by simp +decide (disch := omega) only [nrm, lk_nrm, dc_nrm, mk_nrm, mf_nrm, ti_nrm, ls_nrm, mp_nrm, nb_nrm, hset, pick_and, pick_or, ↓reduceIte, Nat.reduceAdd, wI64, wI32, wI16, wI8, wU8, List.length_map, Int.toNat_natCast, List.set_set]; rfl)
    refine g1 ?_ (hst := by simp +decide (disch := omega) only [nrm, lk_nrm, dc_nrm, mk_nrm, mf_nrm, ti_nrm, ls_nrm, mp_nrm, nb_nrm, hset, pick_and, pick_or, ↓reduceIte, Nat.reduceAdd, wI64, wI32, wI16, wI8, wU8, List.length_map, Int.toNat_natCast, List.set_set]; rfl)
    refine g1 ?_ (hst := by simp +decide (disch := omega) only [nrm, lk_nrm, dc_nrm, mk_nrm, mf_nrm, ti_nrm, ls_nrm, mp_nrm, nb_nrm, hset, pick_and, pick_or, ↓reduceIte, Nat.reduceAdd, wI64, wI32, wI16, wI8, wU8, List.length_map, Int.toNat_natCast, List.set_set]; rfl)
    refine awp_seq ?_
    refine r1 T0_ok hP hm hN ?_
    refine g1 ?_ (hst := by simp +decide (disch := omega) only [nrm, lk_nrm, dc_nrm, mk_nrm, mf_nrm, ti_nrm, ls_nrm, mp_nrm, nb_nrm, hset, pick_and, pick_or, ↓reduceIte, Nat.reduceAdd, wI64, wI32, wI16, wI8, wU8, List.length_map, Int.toNat_natCast, List.set_set]; rfl)
    refine g1 ?_ (hst := by simp +decide (disch := omega) only [nrm, lk_nrm, dc_nrm, mk_nrm, mf_nrm, ti_nrm, ls_nrm, mp_nrm, nb_nrm, hset, pick_and, pick_or, ↓reduceIte, Nat.reduceAdd, wI64, wI32, wI16, wI8, wU8, List.length_map, Int.toNat_natCast, List.set_set]; rfl)
    refine g1 ?_ (hst := by simp +decide (disch := omega) only [nrm, lk_nrm, dc_nrm, mk_nrm, mf_nrm, ti_nrm, ls_nrm, mp_nrm, nb_nrm, hset, pick_and, pick_or, ↓reduceIte, Nat.reduceAdd, wI64, wI32, wI16, wI8, wU8, List.length_map, Int.toNat_natCast, List.set_set]; rfl)
    refine awp_seq ?_
    refine r1 T0_ok hP hm hN ?_
    refine g1 ?_ (hst := by simp +decide (disch := omega) only [nrm, lk_nrm, dc_nrm, mk_nrm, mf_nrm, ti_nrm, ls_nrm, mp_nrm, nb_nrm, hset, pick_and, pick_or, ↓reduceIte, Nat.reduceAdd, wI64, wI32, wI16, wI8, wU8, List.length_map, Int.toNat_natCast, List.set_set]; rfl)
    refine g1 ?_ (hst := by simp +decide (disch := omega) only [nrm, lk_nrm, dc_nrm, mk_nrm, mf_nrm, ti_nrm, ls_nrm, mp_nrm, nb_nrm, hset, pick_and, pick_or, ↓reduceIte, Nat.reduceAdd, wI64, wI32, wI16, wI8, wU8, List.length_map, Int.toNat_natCast, List.set_set]; rfl)
    refine g1 ?_ (hst := by simp +decide (disch := omega) only [nrm, lk_nrm, dc_nrm, mk_nrm, mf_nrm, ti_nrm, ls_nrm, mp_nrm, nb_nrm, hset, pick_and, pick_or, ↓reduceIte, Nat.reduceAdd, wI64, wI32, wI16, wI8, wU8, List.length_map, Int.toNat_natCast, List.set_set]; rfl)
    refine g1 ?_ (hst := by simp +decide (disch := omega) only [nrm, lk_nrm, dc_nrm, mk_nrm, mf_nrm, ti_nrm, ls_nrm, mp_nrm, nb_nrm, hset, pick_and, pick_or, ↓reduceIte, Nat.reduceAdd, wI64, wI32, wI16, wI8, wU8, List.length_map, Int.toNat_natCast, List.set_set]; rfl)
    refine g1 ?_ (hst := by simp +decide (disch := omega) only [nrm, lk_nrm, dc_nrm, mk_nrm, mf_nrm, ti_nrm, ls_nrm, mp_nrm, nb_nrm, hset, pick_and, pick_or, ↓reduceIte, Nat.reduceAdd, wI64, wI32, wI16, wI8, wU8, List.length_map, Int.toNat_natCast, List.set_set]; rfl)
    refine g1 ?_ (hst := by simp +decide (disch := omega) only [nrm, lk_nrm, dc_nrm, mk_nrm, mf_nrm, ti_nrm, ls_nrm, mp_nrm, nb_nrm, hset, pick_and, pick_or, ↓reduceIte, Nat.reduceAdd, wI64, wI32, wI16, wI8, wU8, List.length_map, Int.toNat_natCast, List.set_set]; rfl)
    refine g1 ?_ (hst := by simp +decide (disch := omega) only [nrm, lk_nrm, dc_nrm, mk_nrm, mf_nrm, ti_nrm, ls_nrm, mp_nrm, nb_nrm, hset, pick_and, pick_or, ↓reduceIte, Nat.reduceAdd, wI64, wI32, wI16, wI8, wU8, List.length_map, Int.toNat_natCast, List.set_set]; rfl)
    refine r1 T0_ok hP hm hN ?_
    refine g1 ?_ (hst := by simp +decide (disch := omega) only [nrm, lk_nrm, dc_nrm, mk_nrm, mf_nrm, ti_nrm, ls_nrm, mp_nrm, nb_nrm, hset, pick_and, pick_or, ↓reduceIte, Nat.reduceAdd, wI64, wI32, wI16, wI8, wU8, List.length_map, Int.toNat_natCast, List.set_set]; rfl)
    refine g1 ?_ (hst := by simp +decide (disch := omega) only [nrm, lk_nrm, dc_nrm, mk_nrm, mf_nrm, ti_nrm, ls_nrm, mp_nrm, nb_nrm, hset, pick_and, pick_or, ↓reduceIte, Nat.reduceAdd, wI64, wI32, wI16, wI8, wU8, List.length_map, Int.toNat_natCast, List.set_set]; rfl)
    refine g1 ?_ (hst := by simp +decide (disch := omega) only [nrm, lk_nrm, dc_nrm, mk_nrm, mf_nrm, ti_nrm, ls_nrm, mp_nrm, nb_nrm, hset, pick_and, pick_or, ↓reduceIte, Nat.reduceAdd, wI64, wI32, wI16, wI8, wU8, List.length_map, Int.toNat_natCast, List.set_set]; rfl)
    refine r1 T0_ok hP hm hN ?_
    refine g1 ?_ (hst := by simp +decide (disch := omega) only [nrm, lk_nrm, dc_nrm, mk_nrm, mf_nrm, ti_nrm, ls_nrm, mp_nrm, nb_nrm, hset, pick_and, pick_or, ↓reduceIte, Nat.reduceAdd, wI64, wI32, wI16, wI8, wU8, List.length_map, Int.toNat_natCast, List.set_set]; rfl)
    refine g1 ?_ (hst := by simp +decide (disch := omega) only [nrm, lk_nrm, dc_nrm, mk_nrm, mf_nrm, ti_nrm, ls_nrm, mp_nrm, nb_nrm, hset, pick_and, pick_or, ↓reduceIte, Nat.reduceAdd, wI64, wI32, wI16, wI8, wU8, List.length_map, Int.toNat_natCast, List.set_set]; rfl)
    refine g1 ?_ (hst := by simp +decide (disch := omega) only [nrm, lk_nrm, dc_nrm, mk_nrm, mf_nrm, ti_nrm, ls_nrm, mp_nrm, nb_nrm, hset, pick_and, pick_or, ↓reduceIte, Nat.reduceAdd, wI64, wI32, wI16, wI8, wU8, List.length_map, Int.toNat_natCast, List.set_set]; rfl)
    refine ⟨xs.length - (i + 1), _, by omega, (by rw [← mix_move_set xs k hlti, mvs_set, show k + 2 * ((i + 1 : Nat) : Int) = k + 2 * (i : Int) + 1 + 1 by omega]; exact weak_sl (sub_cons rfl (sub_cons rfl (sub_cons rfl (sub_nil))))), i + 1, by omega, rfl, rfl⟩
  · skip
    have hgei : ¬ i < xs.length := by simp [hml] at hc0; omega
    have heqi : i = xs.length := by omega
    rw [heqi, mix_move_all]
    refine awp_exit ?_
    repeat refine thenA_exit ?_
    refine blockA_hit ?_
    refine awp_seq ?_
    refine r1 T0_ok hP hm hN ?_
    refine g1 ?_ (hst := by simp +decide (disch := omega) only [nrm, lk_nrm, dc_nrm, mk_nrm, mf_nrm, ti_nrm, ls_nrm, mp_nrm, nb_nrm, hset, pick_and, pick_or, ↓reduceIte, Nat.reduceAdd, wI64, wI32, wI16, wI8, wU8, List.length_map, Int.toNat_natCast, List.set_set]; rfl)
    refine g1 ?_ (hst := by simp +decide (disch := omega) only [nrm, lk_nrm, dc_nrm, mk_nrm, mf_nrm, ti_nrm, ls_nrm, mp_nrm, nb_nrm, hset, pick_and, pick_or, ↓reduceIte, Nat.reduceAdd, wI64, wI32, wI16, wI8, wU8, List.length_map, Int.toNat_natCast, List.set_set]; rfl)
    refine awp_ret ?_
    refine fin_mk [] rfl rfl ?_ (objs_cons rfl rfl rfl rfl rfl (.inl rfl) objs_nil) (by decide)
    rfl

noncomputable abbrev s_L_heldMoveS : Spec (List Mv × Int) where
  args := fun x => [.sl 2 (mvs x.1), .val (.int .i64 x.2)]
  pre := fun x => x.1.length ≤ 4611686018427387904 ∧ 0 ≤ x.2 ∧ x.2 + 2 * x.1.length ≤ 4611686018427387904
  res := fun x => .val (.int .i64 (heldR_move x.1 x.2))

set_option maxRecDepth 20000 in
set_option maxHeartbeats 1000000 in
theorem ok_L_heldMoveS : FnOk Pr 9 s_L_heldMoveS := by
  refine fn_ok 2 0 T0_ok Go.Proofs.Tryd.func9 rfl (enters_of Go.Proofs.Tryd.func9 rfl rfl) (fun _ => rfl) (fun _ => rfl) (fun _ => rfl) ?_
  rintro ⟨xs, k⟩ ⟨hl, hk0, hk⟩ C hP hN hm hG
  change awp C _ _ ⟨[(0, .sl 2 (mvs xs)), (1, .val (.int .i64 k))], [], 0⟩
  simp only at hl hk0 hk
  refine awp_seq ?_
  refine r1 T0_ok hP hm hN ?_
  refine g1 ?_
  refine awp_seq ?_
  refine awp_seq ?_
  refine r1 T0_ok hP hm hN ?_
  refine g1 ?_
  refine awp_block ?_
  refine awp_loop (fun n st => ∃ i : Nat, i ≤ xs.length ∧ (∀ j, j < i → xs.getD j mv0 = mk_move (k + 2 * (j : Int))) ∧ n = xs.length - i ∧ st = ⟨[(5, .val (.int .i64 (i : Nat))), (1, .val (.int .i64 (k + 2 * ((i : Nat) : Int)))), (0, .sl 2 (mvs xs))], [], 0⟩) (xs.length) ⟨_, (by rw [show k + 2 * ((0 : Nat) : Int) = k by omega]; exact weak_sl (sub_cons rfl (sub_cons rfl (sub_cons rfl (sub_nil))))), 0, by omega, fun j h => by omega, rfl, rfl⟩ ?_
  rintro n st ⟨i, hii, hall, hni, rfl⟩
  refine awp_seq ?_
  refine awp_seq ?_
  refine r1 T0_ok hP hm hN ?_
  refine g1 ?_
  refine g1 ?_
  refine g1 ?_
  refine g1 ?_
  refine awp_cond rfl (fun hc0 => ?_) (fun hc0 => ?_)
  · skip
    have hlti : i < xs.length := by simpa using hc0
    have hgx := mvs_get xs i hlti
    refine awp_skip ?_
    refine awp_seq ?_
    refine awp_block ?_
    refine awp_seq ?_
    refine awp_seq ?_
    refine r1 T0_ok hP hm hN ?_
    refine g1 ?_
    refine g1 ?_
    refine g1 ?_
    refine g1 ?_
    refine g1 ?_
    refine g1 ?_
    refine g1 ?_
    refine g1 ?_
    refine awp_cond rfl (fun hc1 => ?_) (fun hc1 => ?_)
    · skip
      refine awp_seq ?_
      refine r1 T0_ok hP hm hN ?_
      refine g1 ?_
      refine awp_ret ?_
      refine fin_mk [] rfl rfl ?_ trivial (by decide)
      show D.val (.int .i64 (heldR_move xs k)) = D.val (.int .i64 (-1))
      rw [heldR_move_no hlti (fun e => by rw [e] at hc1; simp [mk_move] at hc1)]
    · skip
      refine awp_skip ?_
      refine awp_seq ?_
      refine r1 T0_ok hP hm hN ?_
      refine g1 ?_
      refine g1 ?_
      refine g1 ?_
      refine awp_seq ?_
      refine awp_seq ?_
      refine r1 T0_ok hP hm hN ?_
      refine g1 ?_
      refine g1 ?_
      refine g1 ?_
      refine g1 ?_
      refine g1 ?_
      refine g1 ?_
      refine g1 ?_
      refine g1 ?_
      refine awp_cond rfl (fun hc2 => ?_) (fun hc2 => ?_)
      · skip
        refine awp_seq ?_
        refine r1 T0_ok hP hm hN ?_
        refine g1 ?_
        refine awp_ret ?_
        refine fin_mk [] rfl rfl ?_ trivial (by decide)
        show D.val (.int .i64 (heldR_move xs k)) = D.val (.int .i64 (-1))
        rw [heldR_move_no hlti (fun e => by rw [e] at hc2; simp [mk_move] at hc2)]
      · skip
        refine awp_skip ?_
        refine r1 T0_ok hP hm hN ?_
        refine g1 ?_
        refine g1 ?_
        refine g1 ?_
        refine r1 T0_ok hP hm hN ?_
        refine g1 ?_
        refine g1 ?_
        refine g1 ?_
        refine ⟨xs.length - (i + 1), _, by omega, (by rw [show k + 2 * ((i + 1 : Nat) : Int) = k + 2 * (i : Int) + 1 + 1 by omega]; exact weak_sl (sub_cons rfl (sub_cons rfl (sub_cons rfl (sub_nil))))), i + 1, by omega, upto_step hall (by have h1 := hc1; have h2 := hc2; simp only [bne_eq_false_iff_eq] at h1 h2; exact Prod.ext h1 h2), rfl, rfl⟩
  · skip
    have hgei : ¬ i < xs.length := by simpa using hc0
    have heqi : i = xs.length := by omega
    refine awp_exit ?_
    repeat refine thenA_exit ?_
    refine blockA_hit ?_
    refine awp_seq ?_
    refine r1 T0_ok hP hm hN ?_
    refine g1 ?_
    refine g1 ?_
    refine awp_ret ?_
    refine fin_mk [] rfl rfl ?_ trivial (by decide)
    show D.val (.int .i64 (heldR_move xs k)) = _
    rw [heldR_move_yes (fun j hj => hall j (by omega)), ← heqi]
    rfl

abbrev isMv (m : Mv) : Prop := isI16 m.1 ∧ isI16 m.2

def mapF {α β : Type} (g : α → β) (xs : List α) (i : Nat) : List β := (xs.take i).map g
theorem mapF_succ {α β : Type} {d : α} (g : α → β) {xs : List α} {i : Nat} (h : i < xs.length) : mapF g xs (i + 1) = mapF g xs i ++ [g (xs.getD i d)] := by
  have e : xs.getD i d = xs[i] := by simp [List.getD, h]
  unfold mapF
  rw [e, List.take_succ_eq_append_getElem h, List.map_append]
  rfl
theorem mapF_all {α β : Type} (g : α → β) (xs : List α) : mapF g xs xs.length = xs.map g := by simp [mapF]
theorem mapF_len {α β : Type} (g : α → β) (xs : List α) {i : Nat} (h : i ≤ xs.length) : (mapF g xs i).length = i := by simp [mapF]; omega
theorem fnCell_cases {d : D} (h : fnCell d = true) : (∃ v, d = .val v) ∨ ∃ f cs, d = .clo f cs := by
  unfold fnCell at h
  split at h
  · exact .inl ⟨_, rfl⟩
  · exact .inr ⟨_, _, rfl⟩
  · cases h

abbrev strD (s : ByteArray) : D := .val (.string s)
abbrev strs (xs : List ByteArray) : List (List D) := xs.map fun s => [.val (.string s)]
theorem flat_strs (ty : TypeId) (sz : Nat) (dp : Bool) (xs : List ByteArray) : flatO ⟨ty, sz, dp, strs xs⟩ := flatO_map (fun s => [.val (.string s)]) (fun a d hd => by simp at hd; subst hd; rfl) _ _ _ _
theorem strs_app (xs ys : List ByteArray) : strs (xs ++ ys) = strs xs ++ strs ys := by simp

def decS (n : Int) : ByteArray := ⟨(Lib.decDigits n.toNat).toArray⟩
theorem ba_ext {a b : ByteArray} (h : a.data.toList = b.data.toList) : a = b := by
  apply ByteArray.ext
  rw [← Array.toList_inj]
  exact h
theorem ba_app (a b : ByteArray) : (a ++ b).data.toList = a.data.toList ++ b.data.toList := by
  rw [ByteArray.data_append, Array.toList_append]
theorem ba_size (a : ByteArray) : a.size = a.data.toList.length := rfl
theorem u8_digit (k : Nat) : UInt8.ofNat ((48 + (k : Int)).toNat) = UInt8.ofNat (48 + k) := by
  congr 1
theorem decS_small {n : Int} (h0 : 0 ≤ n) (h1 : n < 10) : strOfNums [48 + n.tmod 10] = decS n := by
  apply ba_ext
  obtain ⟨k, rfl⟩ := Int.eq_ofNat_of_zero_le h0
  show [UInt8.ofNat (48 + (k : Int).tmod 10).toNat] = Lib.decDigits k
  rw [Lib.decDigits_one (by omega), show (k : Int).tmod 10 = (k : Int) from by rw [Int.tmod_eq_emod_of_nonneg (by omega)]; omega, u8_digit]
theorem tdiv_nat {n : Int} (h0 : 0 ≤ n) : (n.tdiv 10).toNat = n.toNat / 10 ∧ n.tmod 10 = ((n.toNat % 10 : Nat) : Int) ∧ 0 ≤ n.tdiv 10 ∧ n.tdiv 10 = n / 10 := by
  rw [Int.tdiv_eq_ediv_of_nonneg h0, Int.tmod_eq_emod_of_nonneg h0]
  refine ⟨by omega, by omega, by omega, rfl⟩
theorem decS_big {n : Int} (h : 10 ≤ n) : decS (n.tdiv 10) ++ strOfNums [48 + n.tmod 10] = decS n := by
  obtain ⟨h1, h2, _⟩ := tdiv_nat (n := n) (by omega)
  apply ba_ext
  rw [ba_app]
  show Lib.decDigits (n.tdiv 10).toNat ++ [UInt8.ofNat (48 + n.tmod 10).toNat] = Lib.decDigits n.toNat
  rw [h1, h2, u8_digit]
  conv => rhs; rw [Lib.decDigits, dif_neg (by omega)]
theorem decS_size {n : Int} (h0 : 0 ≤ n) (h1 : n < 100) : (decS n).size ≤ 2 := by
  show (Lib.decDigits n.toNat).length ≤ 2
  by_cases h : n.toNat < 10
  · rw [Lib.decDigits_one h]; exact Nat.le_of_ble_eq_true rfl
  · rw [Lib.decDigits_two h (by omega)]; exact Nat.le_of_ble_eq_true rfl
theorem dig_len : ∀ (k n : Nat), n < 10 ^ (k + 1) → (Lib.decDigits n).length ≤ k + 1
  | 0, n, h => by rw [Lib.decDigits_one (by simpa using h)]; exact Nat.le_of_ble_eq_true rfl
  | k + 1, n, h => by
    by_cases h1 : n < 10
    · rw [Lib.decDigits_one h1]; simp
    · rw [Lib.decDigits, dif_neg h1, List.length_append]
      have := dig_len k (n / 10) (by rw [Nat.pow_succ] at h; omega)
      simp; omega
theorem decS_size4 {n : Int} (h0 : 0 ≤ n) (h1 : n < 10000) : (decS n).size ≤ 4 := dig_len 3 n.toNat (by omega)
theorem itoa_decS {n : Int} (h0 : 0 ≤ n) : (⟨(Lib.itoa n).toArray⟩ : ByteArray) = decS n := by rw [Lib.itoa, if_neg (by omega)]; rfl
abbrev spB : ByteArray := ⟨#[32]⟩
abbrev gtB : ByteArray := ⟨#[62]⟩
def mvT (m : Int × Int) : ByteArray := (decS m.1 ++ gtB) ++ decS m.2
abbrev txOk (m : Int × Int) : Prop := (0 ≤ m.1 ∧ m.1 < 100) ∧ (0 ≤ m.2 ∧ m.2 < 100)
theorem app_size (a b : ByteArray) : (a ++ b).size = a.size + b.size := ByteArray.size_append
theorem mvT_size {m : Int × Int} (h : txOk m) : (mvT m).size ≤ 5 := by
  have h1 := decS_size h.1.1 h.1.2
  have h2 := decS_size h.2.1 h.2.2
  have h3 : gtB.size = 1 := rfl
  rw [mvT, app_size, app_size]
  omega
def tF (ms : List (Int × Int)) : Nat → ByteArray
  | 0 => ⟨#[]⟩
  | i + 1 => (if 0 < i then tF ms i ++ spB else tF ms i) ++ mvT (ms.getD i (0, 0))
theorem tF_size {ms : List (Int × Int)} (h : ∀ m ∈ ms, txOk m) : ∀ i, i ≤ ms.length → (tF ms i).size ≤ 6 * i
  | 0, _ => by simp [tF]; rfl
  | i + 1, hi => by
    have h1 := tF_size h i (by omega)
    have h2 : (mvT (ms.getD i (0, 0))).size ≤ 5 := mvT_size (h _ (by simp [List.getD, show i < ms.length by omega]))
    have h3 : spB.size = 1 := rfl
    rw [tF, app_size]
    split
    · rw [app_size]; omega
    · omega
def joinS (ms : List (Int × Int)) : ByteArray := ⟨(Lib.join ((ms.map mvT).map (·.data.toList)) [32]).toArray⟩
theorem tF_join (ms : List (Int × Int)) : tF ms ms.length = joinS ms := by
  apply ba_ext
  show (tF ms ms.length).data.toList = Lib.join ((ms.map mvT).map (·.data.toList)) [32]
  cases ms with
  | nil => rfl
  | cons m r =>
    rw [List.map_cons, List.map_cons, Lib.join_cons]
    have key : ∀ i, i ≤ r.length → (tF (m :: r) (i + 1)).data.toList = (mvT m).data.toList ++ Lib.joinTail [32] (((r.map mvT).map (·.data.toList)).take i) := by
      intro i
      induction i with
      | zero =>
        intro _
        rw [tF, if_neg (by omega), ba_app, List.take_zero]
        show [] ++ (mvT m).data.toList = (mvT m).data.toList ++ []
        rw [List.append_nil, List.nil_append]
      | succ i ih =>
        intro hi
        rw [tF, if_pos (by omega), ba_app, ba_app, ih (by omega), Lib.joinTail_take_succ [32] _ i (mvT (r.getD i (0, 0))).data.toList (by simp [List.getD, show i < r.length by omega]), List.append_assoc, List.append_assoc, List.append_assoc]
        rfl
    have h := key r.length (Nat.le_refl _)
    rw [List.take_of_length_le (by simp)] at h
    exact h
theorem join_small {ms : List (Int × Int)} (h : ∀ m ∈ ms, txOk m) : (Lib.join ((ms.map mvT).map (·.data.toList)) [32]).length ≤ 6 * ms.length := by
  have h1 := tF_size h ms.length (Nat.le_refl _)
  rw [tF_join] at h1
  exact h1
def hF (a b c : Int) (xs : List Int) : Nat → ByteArray
  | 0 => (((decS a ++ spB) ++ decS b) ++ spB) ++ decS c
  | i + 1 => hF a b c xs i ++ (spB ++ decS (xs.getD i 0))
abbrev in4 (n : Int) : Prop := 0 ≤ n ∧ n < 10000
theorem hF_size {a b c : Int} {xs : List Int} (ha : in4 a) (hb : in4 b) (hc : in4 c) (hx : ∀ n ∈ xs, in4 n) : ∀ i, i ≤ xs.length → (hF a b c xs i).size ≤ 14 + 5 * i
  | 0, _ => by
    have h1 := decS_size4 ha.1 ha.2
    have h2 := decS_size4 hb.1 hb.2
    have h3 := decS_size4 hc.1 hc.2
    have h4 : spB.size = 1 := rfl
    rw [hF, app_size, app_size, app_size, app_size]
    omega
  | i + 1, hi => by
    have h1 := hF_size ha hb hc hx i (by omega)
    have h2 := hx (xs.getD i 0) (by simp [List.getD, show i < xs.length by omega])
    have h3 := decS_size4 h2.1 h2.2
    have h4 : spB.size = 1 := rfl
    rw [hF, app_size, app_size]
    omega
def htL (a b c : Int) (xs : List Int) : List ByteArray := [decS a, decS b, decS c] ++ xs.map decS
def joinH (a b c : Int) (xs : List Int) : ByteArray := ⟨(Lib.join ((htL a b c xs).map (·.data.toList)) [32]).toArray⟩
theorem hF_join (a b c : Int) (xs : List Int) : hF a b c xs xs.length = joinH a b c xs := by
  apply ba_ext
  show (hF a b c xs xs.length).data.toList = Lib.join ((htL a b c xs).map (·.data.toList)) [32]
  rw [htL, List.cons_append, List.map_cons, Lib.join_cons]
  have key : ∀ i, i ≤ xs.length → (hF a b c xs i).data.toList = (decS a).data.toList ++ Lib.joinTail [32] (((([decS b, decS c] ++ xs.map decS).map (·.data.toList))).take (i + 2)) := by
    intro i
    induction i with
    | zero =>
      intro _
      rw [hF, ba_app, ba_app, ba_app, ba_app]
      simp [Lib.joinTail]
    | succ i ih =>
      intro hi
      rw [hF, ba_app, ba_app, ih (by omega), Lib.joinTail_take_succ [32] _ (i + 2) (decS (xs.getD i 0)).data.toList (by simp [List.getD, show i < xs.length by omega]), List.append_assoc, List.append_assoc]
  have h := key xs.length (Nat.le_refl _)
  rw [List.take_of_length_le (by simp)] at h
  exact h
theorem joinH_small {a b c : Int} {xs : List Int} (ha : in4 a) (hb : in4 b) (hc : in4 c) (hx : ∀ n ∈ xs, in4 n) : (Lib.join ((htL a b c xs).map (·.data.toList)) [32]).length ≤ 14 + 5 * xs.length := by
  have h1 := hF_size ha hb hc hx xs.length (Nat.le_refl _)
  rw [hF_join] at h1
  exact h1

noncomputable abbrev s_strconv_FormatInt : Spec Int where
  args := fun n => [.val (.int .i64 n), .val (.int .i64 10)]
  pre := fun n => 0 ≤ n ∧ n < 10000
  res := fun n => .val (.string (decS n))
theorem tab_pow {w : World} (h : TabAt [] w) : Lib.TabIs Pr w "internal/strconv.uint64pow10" .u64 Lib.pow10Tab := by
  obtain ⟨h1, _, o, h3, ty, fr, h4⟩ := h _ (List.mem_cons_self ..)
  subst h4
  unfold Lib.TabIs World.var?
  rw [show Pr.globalNamed "internal/strconv.uint64pow10" = some 5 by kernel_rfl]
  simp only [Option.bind_some]
  rw [h3]
theorem below_grow (w : World) (k : Nat) (os : Array Obj) : Below w.heap.size w (Sort.grow (w.drewN k) os) := ⟨rfl, rfl, rfl, by simp [Sort.grow], fun i hi => Sort.heap_grow_old (w.drewN k) os (by simpa using hi)⟩
theorem ok_strconv_FormatInt : FnOk Pr 62 s_strconv_FormatInt := fnOk_valsB (fun n => [.int .i64 n, .int .i64 10]) (fun n => 0 ≤ n ∧ n < 10000) (fun n => .string (decS n)) (enters_of Go.Proofs.Tryd.func62 rfl rfl) (fun n hn w ht => by
  refine (Go.Proofs.Tryd.strconv_FormatInt_10 n (by omega) (by omega) w (tab_pow ht)).mono fun e w' hw => ?_
  obtain ⟨rfl, k, os, rfl⟩ := hw
  exact ⟨by rw [itoa_decS hn.1], below_grow w k os⟩)
noncomputable abbrev s_strings_Join : Spec (List ByteArray × ByteArray) where
  args := fun x => [.sl 1 (x.1.map fun s => [.val (.string s)]), .val (.string x.2)]
  pre := fun x => x.1.length ≤ 140737488355328 ∧ (Lib.join (x.1.map (·.data.toList)) x.2.data.toList).length ≤ 140737488355328
  res := fun x => .val (.string ⟨(Lib.join (x.1.map (·.data.toList)) x.2.data.toList).toArray⟩)
theorem ok_strings_Join : FnOk Pr 39 s_strings_Join := fnOk_join (enters_of Go.Proofs.Tryd.func39 rfl rfl) Go.Proofs.Tryd.strings_Join_none (fun bk o c xs sep w h1 h2 h3 h4 h5 => Go.Proofs.Tryd.strings_Join bk o c xs sep w h1 h2 h3 h4 h5)
end Go.Proofs.YtoincpeodnmfmaaDoor.Abs
