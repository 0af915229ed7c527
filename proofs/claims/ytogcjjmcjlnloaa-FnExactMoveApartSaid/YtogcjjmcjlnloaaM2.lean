import Derived.Test.YtogcjjmcjlnloaaM1
set_option linter.unusedVariables false
set_option linter.unusedSimpArgs false
namespace Go.Proofs.Ytogcjjmcjlnloaa.Abs
open Go Go.RowKit
def maxI (a b : Int) : Int := if b > a then b else a
theorem max_nrm (a b : Int) : (if b > a then b else a) = maxI a b := rfl
theorem maxI_b (a b : Int) : a ≤ maxI a b ∧ b ≤ maxI a b ∧ (maxI a b = a ∨ maxI a b = b) := by
  unfold maxI
  split <;> omega

noncomputable abbrev s_S_l00Max : Spec (Int × Int) where
  args := fun x => [.val (.int .i64 x.1), .val (.int .i64 x.2)]
  res := fun x => .val (.int .i64 (maxI x.2 x.1))

set_option maxRecDepth 20000 in
set_option maxHeartbeats 1000000 in
theorem ok_S_l00Max : FnOk Pr 13 s_S_l00Max := by
  refine fn_ok 2 0 T0_ok Go.Proofs.Try.func13 rfl (enters_of Go.Proofs.Try.func13 rfl rfl) (fun _ => rfl) (fun _ => rfl) (fun _ => rfl) ?_
  rintro ⟨a, b⟩ - C hP hN hm hG
  change awp C _ _ ⟨[(0, .val (.int .i64 a)), (1, .val (.int .i64 b))], [], 0⟩
  refine awp_seq ?_
  refine r1 T0_ok hP hm hN ?_
  refine g1 ?_
  refine awp_seq ?_
  refine awp_seq ?_
  refine r1 T0_ok hP hm hN ?_
  refine g1 ?_
  refine g1 ?_
  refine g1 ?_
  refine awp_cond rfl (fun hc0 => ?_) (fun hc0 => ?_)
  · skip
    refine awp_seq ?_
    refine r1 T0_ok hP hm hN ?_
    refine g1 ?_
    refine g1 ?_
    refine awp_ret ?_
    refine fin_mk [] rfl rfl ?_ trivial (by decide)
    show D.val (.int .i64 (maxI b a)) = _
    rw [maxI, if_pos (by simpa using hc0)]
    rfl
  · skip
    refine awp_skip ?_
    refine awp_seq ?_
    refine r1 T0_ok hP hm hN ?_
    refine g1 ?_
    refine g1 ?_
    refine awp_ret ?_
    refine fin_mk [] rfl rfl ?_ trivial (by decide)
    show D.val (.int .i64 (maxI b a)) = _
    rw [maxI, if_neg (by simpa using hc0)]
    rfl

def apD (x y : Int) : Int := maxI (y - x) (x - y)
theorem apD_neg (x y : Int) : maxI (x - y) (0 - (x - y)) = apD x y := by
  unfold apD maxI
  split <;> split <;> omega
def apF (xs ys : List Pl) : Nat → Int
  | 0 => 0
  | i + 1 => apF xs ys i + apD (xs.getD i pl0).1 (ys.getD i pl0).1
theorem apF_b {xs ys : List Pl} (hx : ∀ b ∈ xs, isPl b) (hy : ∀ b ∈ ys, isPl b) : ∀ i, i ≤ xs.length → i ≤ ys.length → 0 ≤ apF xs ys i ∧ apF xs ys i ≤ i * 65535
  | 0, _, _ => by simp [apF]
  | i + 1, h1, h2 => by
    have ih := apF_b hx hy i (by omega) (by omega)
    have ha := (hx _ (getD_mem' (d := pl0) (show i < xs.length by omega))).1
    have hb := (hy _ (getD_mem' (d := pl0) (show i < ys.length by omega))).1
    have hm := maxI_b ((ys.getD i pl0).1 - (xs.getD i pl0).1) ((xs.getD i pl0).1 - (ys.getD i pl0).1)
    simp only [apF, apD]
    unfold isI16 at ha hb
    omega
def apR (ok same : Bool) (xs ys : List Pl) : Int × Int := if ok then (0, 1) else if !same then (0, 4) else (apF xs ys xs.length, 0)

noncomputable abbrev s_S_MoveApart : Spec ((Int × List Pl) × (Int × List Pl)) where
  args := fun x => [rackD x.1, rackD x.2]
  pre := fun x => ((isI16 x.1.1 ∧ ∀ b ∈ x.1.2, isPl b) ∧ x.1.2.length ≤ 1048576) ∧ ((isI16 x.2.1 ∧ ∀ b ∈ x.2.2, isPl b) ∧ x.2.2.length ≤ 1048576)
  res := fun x => .tup [.val (.int .i64 (apR (!okR x.1.1 x.1.2 || !okR x.2.1 x.2.2) (ask (x.1.2.map Prod.snd = x.2.2.map Prod.snd)) x.1.2 x.2.2).1), .val (.int .i64 (apR (!okR x.1.1 x.1.2 || !okR x.2.1 x.2.2) (ask (x.1.2.map Prod.snd = x.2.2.map Prod.snd)) x.1.2 x.2.2).2)]

set_option maxRecDepth 20000 in
set_option maxHeartbeats 4000000 in
theorem ok_S_MoveApart : FnOk Pr 5 s_S_MoveApart := by
  refine fn_ok 2 0 T0_ok Go.Proofs.Try.func5 rfl (enters_of Go.Proofs.Try.func5 rfl rfl) (fun _ => rfl) (fun _ => rfl) (fun _ => rfl) ?_
  rintro ⟨⟨p, xs⟩, q, ys⟩ ⟨⟨⟨hpp, hv⟩, hl⟩, ⟨hqq, hw⟩, hm2⟩ C hP hN hm hG
  change awp C _ _ ⟨[(0, .agg [.val (.int .i16 p), .sl 9 (pls xs)]), (1, .agg [.val (.int .i16 q), .sl 9 (pls ys)])], [], 0⟩
  simp only at hpp hv hl hqq hw hm2
  refine awp_seq ?_
  refine r1 T0_ok hP hm hN ?_
  refine g1 ?_
  refine g1 ?_
  refine g1 ?_
  refine g1 ?_
  refine awp_seq ?_
  refine awp_seq ?_
  refine r1 T0_ok hP hm hN ?_
  refine gc1 ?_ (call1 ok_S_l05Ok (_, _) [] (hpre := by (try dsimp only); first | exact ⟨⟨hpp, hv⟩, hl⟩ | exact ⟨⟨hqq, hw⟩, hm2⟩))
  refine g1 ?_
  refine g1 ?_
  refine ggc1 ?_ (hs := by intro hb; simp +decide only [hb, gd_tt, gd_ff, beq_self_eq_true, Bool.true_and, beq_true]; exact ⟨rfl, _, call1 ok_S_l05Ok (_, _) [] (hpre := by (try dsimp only); first | exact ⟨⟨hpp, hv⟩, hl⟩ | exact ⟨⟨hqq, hw⟩, hm2⟩), rfl, rfl, rfl⟩)
  refine gg1 ?_
  refine g1 ?_
  refine awp_cond rfl (fun hc0 => ?_) (fun hc0 => ?_)
  · skip
    refine awp_seq ?_
    refine r1 T0_ok hP hm hN ?_
    refine g1 ?_
    refine g1 ?_
    refine awp_ret ?_
    refine fin_mk [] rfl rfl ?_ trivial (by decide)
    show D.tup [.val (.int .i64 (apR (!okR p xs || !okR q ys) (ask (xs.map Prod.snd = ys.map Prod.snd)) xs ys).1), .val (.int .i64 (apR (!okR p xs || !okR q ys) (ask (xs.map Prod.snd = ys.map Prod.snd)) xs ys).2)] = _
    rw [apR, if_pos hc0]
    rfl
  · skip
    refine awp_skip ?_
    refine awp_seq ?_
    refine awp_seq ?_
    refine r1 T0_ok hP hm hN ?_
    refine gc1 ?_ (call1 ok_S_l05Books (_, _) [] (hpre := by (try dsimp only); first | exact hl | exact hm2))
    refine gc1 ?_ (call1 ok_S_l05Books (_, _) [] (hpre := by (try dsimp only); first | exact hl | exact hm2))
    refine gc1 ?_ (call1 ok_S_l01Same (_, _) [] (hpre := by (try dsimp only); exact ⟨by (try simp only [List.length_map]); omega, by (try simp only [List.length_map]); omega⟩))
    refine g1 ?_
    refine awp_cond rfl (fun hc1 => ?_) (fun hc1 => ?_)
    · skip
      refine awp_seq ?_
      refine r1 T0_ok hP hm hN ?_
      refine g1 ?_
      refine g1 ?_
      refine awp_ret ?_
      refine fin_mk [] rfl rfl ?_ trivial (by decide)
      show D.tup [.val (.int .i64 (apR (!okR p xs || !okR q ys) (ask (xs.map Prod.snd = ys.map Prod.snd)) xs ys).1), .val (.int .i64 (apR (!okR p xs || !okR q ys) (ask (xs.map Prod.snd = ys.map Prod.snd)) xs ys).2)] = _
      rw [apR, if_neg (by rw [hc0]; simp), if_pos hc1]
      rfl
    · skip
      have hsm : xs.map Prod.snd = ys.map Prod.snd := ask_iff.1 (by simpa using hc1)
      have hlen : xs.length = ys.length := by have := congrArg List.length hsm; simpa using this
      refine awp_skip ?_
      refine awp_seq ?_
      refine r1 T0_ok hP hm hN ?_
      refine g1 ?_
      refine awp_seq ?_
      refine awp_seq ?_
      refine r1 T0_ok hP hm hN ?_
      refine g1 ?_
      refine awp_block ?_
      refine awp_loop (fun n st => ∃ i : Nat, i ≤ xs.length ∧ n = xs.length - i ∧ st = ⟨[(7, .val (.int .i64 (i : Nat))), (6, .val (.int .i64 (apF xs ys i))), (2, .ptr 0 0 0), (3, .ptr 1 0 0)], [(1, ⟨31, 2, true, [[.val (.int .i16 q), .sl 9 (pls ys)]]⟩), (0, ⟨31, 2, true, [[.val (.int .i16 p), .sl 9 (pls xs)]]⟩)], 2⟩) (xs.length) ⟨_, (by exact Weak.trans (weak_drop 3) (Weak.trans (weak_drop 2) (Weak.trans (weak_nx (nx' := 2) (by omega) (by rfl)) (weak_sl (sub_cons rfl (sub_cons rfl (sub_cons rfl (sub_cons rfl (sub_nil))))))))), 0, by omega, rfl, rfl⟩ ?_
      rintro n st ⟨i, hii, hni, rfl⟩
      refine awp_seq ?_
      refine awp_seq ?_
      refine r1 T0_ok hP hm hN ?_
      refine g1 ?_
      refine g1 ?_
      refine g1 ?_
      refine g1 ?_
      refine g1 ?_
      refine awp_cond rfl (fun hc2 => ?_) (fun hc2 => ?_)
      · skip
        have hlti : i < xs.length := by simpa using hc2
        have ha := (hv _ (getD_mem' (d := pl0) hlti)).1
        have hb := (hw _ (getD_mem' (d := pl0) (show i < ys.length by omega))).1
        have ha' : -32768 ≤ (xs.getD i pl0).1 ∧ (xs.getD i pl0).1 ≤ 32767 := ha
        have hb' : -32768 ≤ (ys.getD i pl0).1 ∧ (ys.getD i pl0).1 ≤ 32767 := hb
        have hf := apF_b hv hw i (by omega) (by omega)
        have hm1 := maxI_b ((ys.getD i pl0).1 - (xs.getD i pl0).1) ((xs.getD i pl0).1 - (ys.getD i pl0).1)
        have hm3 := maxI_b ((xs.getD i pl0).1 - (ys.getD i pl0).1) (0 - ((xs.getD i pl0).1 - (ys.getD i pl0).1))
        refine awp_skip ?_
        refine awp_seq ?_
        refine awp_block ?_
        refine awp_seq ?_
        refine r1 T0_ok hP hm hN ?_
        refine g1 ?_
        refine g1 ?_
        refine g1 ?_
        refine g1 ?_
        refine g1 ?_
        refine g1 ?_
        refine g1 ?_
        refine g1 ?_
        refine awp_seq ?_
        refine r1 T0_ok hP hm hN ?_
        refine g1 ?_
        refine g1 ?_
        refine g1 ?_
        refine g1 ?_
        refine g1 ?_
        refine g1 ?_
        refine g1 ?_
        refine g1 ?_
        refine r1 T0_ok hP hm hN ?_
        refine g1 ?_
        refine g1 ?_
        refine g1 ?_
        refine g1 ?_
        refine g1 ?_
        refine g1 ?_
        refine g1 ?_
        refine gc1 ?_ (call1 ok_S_l00Max (_, _) [])
        refine g1 ?_
        refine g1 ?_
        refine r1 T0_ok hP hm hN ?_
        refine g1 ?_
        refine g1 ?_
        refine g1 ?_
        refine ⟨xs.length - (i + 1), _, by omega, weak_sl (sub_cons rfl (sub_cons rfl (sub_cons rfl (sub_cons rfl (sub_nil))))), i + 1, by omega, rfl, rfl⟩
      · skip
        have hgei : ¬ i < xs.length := by simpa using hc2
        have heqi : i = xs.length := by omega
        rw [heqi]
        refine awp_exit ?_
        repeat refine thenA_exit ?_
        refine blockA_hit ?_
        refine awp_seq ?_
        refine r1 T0_ok hP hm hN ?_
        refine g1 ?_
        refine g1 ?_
        refine g1 ?_
        refine awp_ret ?_
        refine fin_mk [] rfl rfl ?_ trivial (by decide)
        show D.tup [.val (.int .i64 (apR (!okR p xs || !okR q ys) (ask (xs.map Prod.snd = ys.map Prod.snd)) xs ys).1), .val (.int .i64 (apR (!okR p xs || !okR q ys) (ask (xs.map Prod.snd = ys.map Prod.snd)) xs ys).2)] = _
        rw [apR, if_neg (by rw [hc0]; simp), if_neg (by rw [hc1]; simp)]
        rfl

noncomputable abbrev s_I_MoveApart : Spec ((Int × List Pl) × (Int × List Pl)) where
  args := fun x => [rackD x.1, rackD x.2]
  pre := fun x => ((isI16 x.1.1 ∧ ∀ b ∈ x.1.2, isPl b) ∧ x.1.2.length ≤ 1048576) ∧ ((isI16 x.2.1 ∧ ∀ b ∈ x.2.2, isPl b) ∧ x.2.2.length ≤ 1048576)
  res := fun x => .tup [.val (.int .i64 (apR (!validR x.1.1 x.1.2 || !validR x.2.1 x.2.2) (ask (x.1.2.map Prod.snd = x.2.2.map Prod.snd)) x.1.2 x.2.2).1), .val (.int .i64 (apR (!validR x.1.1 x.1.2 || !validR x.2.1 x.2.2) (ask (x.1.2.map Prod.snd = x.2.2.map Prod.snd)) x.1.2 x.2.2).2)]

set_option maxRecDepth 20000 in
set_option maxHeartbeats 4000000 in
theorem ok_I_MoveApart : FnOk Pr 7 s_I_MoveApart := by
  refine fn_ok 2 0 T0_ok Go.Proofs.Try.func7 rfl (enters_of Go.Proofs.Try.func7 rfl rfl) (fun _ => rfl) (fun _ => rfl) (fun _ => rfl) ?_
  rintro ⟨⟨p, xs⟩, q, ys⟩ ⟨⟨⟨hpp, hv⟩, hl⟩, ⟨hqq, hw⟩, hm2⟩ C hP hN hm hG
  change awp C _ _ ⟨[(0, .agg [.val (.int .i16 p), .sl 9 (pls xs)]), (1, .agg [.val (.int .i16 q), .sl 9 (pls ys)])], [], 0⟩
  simp only at hpp hv hl hqq hw hm2
  refine awp_seq ?_
  refine r1 T0_ok hP hm hN ?_
  refine g1 ?_ (hst := by simp +decide (disch := omega) only [nrm, lk_nrm, dc_nrm, mk_nrm, mf_nrm, ti_nrm, ls_nrm, mp_nrm, nb_nrm, hset, pick_and, pick_or, ↓reduceIte, Nat.reduceAdd, wI64, wI32, wI16, wI8, wU8, List.length_map, Int.toNat_natCast, max_nrm]; rfl)
  refine g1 ?_ (hst := by simp +decide (disch := omega) only [nrm, lk_nrm, dc_nrm, mk_nrm, mf_nrm, ti_nrm, ls_nrm, mp_nrm, nb_nrm, hset, pick_and, pick_or, ↓reduceIte, Nat.reduceAdd, wI64, wI32, wI16, wI8, wU8, List.length_map, Int.toNat_natCast, max_nrm]; rfl)
  refine g1 ?_ (hst := by simp +decide (disch := omega) only [nrm, lk_nrm, dc_nrm, mk_nrm, mf_nrm, ti_nrm, ls_nrm, mp_nrm, nb_nrm, hset, pick_and, pick_or, ↓reduceIte, Nat.reduceAdd, wI64, wI32, wI16, wI8, wU8, List.length_map, Int.toNat_natCast, max_nrm]; rfl)
  refine g1 ?_ (hst := by simp +decide (disch := omega) only [nrm, lk_nrm, dc_nrm, mk_nrm, mf_nrm, ti_nrm, ls_nrm, mp_nrm, nb_nrm, hset, pick_and, pick_or, ↓reduceIte, Nat.reduceAdd, wI64, wI32, wI16, wI8, wU8, List.length_map, Int.toNat_natCast, max_nrm]; rfl)
  refine awp_seq ?_
  refine awp_block ?_
  refine awp_seq ?_
  refine r1 T0_ok hP hm hN ?_
  refine g1 ?_ (hst := by simp +decide (disch := omega) only [nrm, lk_nrm, dc_nrm, mk_nrm, mf_nrm, ti_nrm, ls_nrm, mp_nrm, nb_nrm, hset, pick_and, pick_or, ↓reduceIte, Nat.reduceAdd, wI64, wI32, wI16, wI8, wU8, List.length_map, Int.toNat_natCast, max_nrm]; rfl)
  refine gc1 ?_ (call1 ok_I_ValidRack (_, _) [] (hpre := by (try dsimp only); first | exact ⟨hv, hl⟩ | exact ⟨hw, hm2⟩)) (hst := by simp +decide (disch := omega) only [nrm, lk_nrm, dc_nrm, mk_nrm, mf_nrm, ti_nrm, ls_nrm, mp_nrm, nb_nrm, hset, pick_and, pick_or, ↓reduceIte, Nat.reduceAdd, wI64, wI32, wI16, wI8, wU8, List.length_map, Int.toNat_natCast, max_nrm]; rfl)
  refine g1 ?_ (hst := by simp +decide (disch := omega) only [nrm, lk_nrm, dc_nrm, mk_nrm, mf_nrm, ti_nrm, ls_nrm, mp_nrm, nb_nrm, hset, pick_and, pick_or, ↓reduceIte, Nat.reduceAdd, wI64, wI32, wI16, wI8, wU8, List.length_map, Int.toNat_natCast, max_nrm]; rfl)
  refine g1 ?_ (hst := by simp +decide (disch := omega) only [nrm, lk_nrm, dc_nrm, mk_nrm, mf_nrm, ti_nrm, ls_nrm, mp_nrm, nb_nrm, hset, pick_and, pick_or, ↓reduceIte, Nat.reduceAdd, wI64, wI32, wI16, wI8, wU8, List.length_map, Int.toNat_natCast, max_nrm]; rfl)
  refine gg1 ?_ (hst := by simp +decide (disch := omega) only [nrm, lk_nrm, dc_nrm, mk_nrm, mf_nrm, ti_nrm, ls_nrm, mp_nrm, nb_nrm, hset, pick_and, pick_or, ↓reduceIte, Nat.reduceAdd, wI64, wI32, wI16, wI8, wU8, List.length_map, Int.toNat_natCast, max_nrm]; rfl)
  refine ggc1 ?_ (hs := by intro hb; simp +decide only [hb, gd_tt, gd_ff, beq_self_eq_true, Bool.true_and, beq_true]; exact ⟨rfl, _, call1 ok_I_ValidRack (_, _) [] (hpre := by (try dsimp only); first | exact ⟨hv, hl⟩ | exact ⟨hw, hm2⟩), rfl, rfl, rfl⟩) (hst := by simp +decide (disch := omega) only [nrm, lk_nrm, dc_nrm, mk_nrm, mf_nrm, ti_nrm, ls_nrm, mp_nrm, nb_nrm, hset, pick_and, pick_or, ↓reduceIte, Nat.reduceAdd, wI64, wI32, wI16, wI8, wU8, List.length_map, Int.toNat_natCast, max_nrm]; rfl)
  refine gg1 ?_ (hst := by simp +decide (disch := omega) only [nrm, lk_nrm, dc_nrm, mk_nrm, mf_nrm, ti_nrm, ls_nrm, mp_nrm, nb_nrm, hset, pick_and, pick_or, ↓reduceIte, Nat.reduceAdd, wI64, wI32, wI16, wI8, wU8, List.length_map, Int.toNat_natCast, max_nrm]; rfl)
  refine g1 ?_ (hst := by simp +decide (disch := omega) only [nrm, lk_nrm, dc_nrm, mk_nrm, mf_nrm, ti_nrm, ls_nrm, mp_nrm, nb_nrm, hset, pick_and, pick_or, ↓reduceIte, Nat.reduceAdd, wI64, wI32, wI16, wI8, wU8, List.length_map, Int.toNat_natCast, max_nrm]; rfl)
  refine g1 ?_ (hst := by simp +decide (disch := omega) only [nrm, lk_nrm, dc_nrm, mk_nrm, mf_nrm, ti_nrm, ls_nrm, mp_nrm, nb_nrm, hset, pick_and, pick_or, ↓reduceIte, Nat.reduceAdd, wI64, wI32, wI16, wI8, wU8, List.length_map, Int.toNat_natCast, max_nrm]; rfl)
  refine awp_cond rfl (fun hc0 => ?_) (fun hc0 => ?_)
  · skip
    refine awp_seq ?_
    refine r1 T0_ok hP hm hN ?_
    refine g1 ?_ (hst := by simp +decide (disch := omega) only [nrm, lk_nrm, dc_nrm, mk_nrm, mf_nrm, ti_nrm, ls_nrm, mp_nrm, nb_nrm, hset, pick_and, pick_or, ↓reduceIte, Nat.reduceAdd, wI64, wI32, wI16, wI8, wU8, List.length_map, Int.toNat_natCast, max_nrm]; rfl)
    refine g1 ?_ (hst := by simp +decide (disch := omega) only [nrm, lk_nrm, dc_nrm, mk_nrm, mf_nrm, ti_nrm, ls_nrm, mp_nrm, nb_nrm, hset, pick_and, pick_or, ↓reduceIte, Nat.reduceAdd, wI64, wI32, wI16, wI8, wU8, List.length_map, Int.toNat_natCast, max_nrm]; rfl)
    refine awp_ret ?_
    refine fin_mk [] rfl rfl ?_ trivial (by decide)
    show D.tup [.val (.int .i64 (apR (!validR p xs || !validR q ys) (ask (xs.map Prod.snd = ys.map Prod.snd)) xs ys).1), .val (.int .i64 (apR (!validR p xs || !validR q ys) (ask (xs.map Prod.snd = ys.map Prod.snd)) xs ys).2)] = _
    rw [apR, if_pos hc0]
    rfl
  · skip
    refine awp_seq ?_
    refine awp_draw T0_ok hP hm hN Pr_mix [0, 1, 2, 3, 4, 5, 6, 7, 8, 9, 10, 11] [1, 3, 4] _ rfl (by rfl) ?_
    refine d1 T0_ok ?_ (hdn := by simp +decide (disch := omega) only [nrm, lk_nrm, dc_nrm, mk_nrm, mf_nrm, ti_nrm, ls_nrm, mp_nrm, nb_nrm, hset, pick_and, pick_or, ↓reduceIte, Nat.reduceAdd, wI64, wI32, wI16, wI8, wU8, List.length_map, Int.toNat_natCast, max_nrm, mask_nrm]; rfl) (hsl := by simp +decide (disch := omega) only [nrm, lk_nrm, dc_nrm, mk_nrm, mf_nrm, ti_nrm, ls_nrm, mp_nrm, nb_nrm, hset, pick_and, pick_or, ↓reduceIte, Nat.reduceAdd, wI64, wI32, wI16, wI8, wU8, List.length_map, Int.toNat_natCast, max_nrm, mask_nrm]; rfl)
    refine dp1 ?_ (call1 ok_I_Rack_books (_, _) [] (hpre := by (try dsimp only); first | exact hl | exact hm2)) (hdn := by simp +decide (disch := omega) only [nrm, lk_nrm, dc_nrm, mk_nrm, mf_nrm, ti_nrm, ls_nrm, mp_nrm, nb_nrm, hset, pick_and, pick_or, ↓reduceIte, Nat.reduceAdd, wI64, wI32, wI16, wI8, wU8, List.length_map, Int.toNat_natCast, max_nrm, mask_nrm]; rfl) (hhp := by simp +decide (disch := omega) only [nrm, lk_nrm, dc_nrm, mk_nrm, mf_nrm, ti_nrm, ls_nrm, mp_nrm, nb_nrm, hset, pick_and, pick_or, ↓reduceIte, Nat.reduceAdd, wI64, wI32, wI16, wI8, wU8, List.length_map, Int.toNat_natCast, max_nrm, mask_nrm]; try rfl) (hnx := by simp +decide (disch := omega) only [nrm, lk_nrm, dc_nrm, mk_nrm, mf_nrm, ti_nrm, ls_nrm, mp_nrm, nb_nrm, hset, pick_and, pick_or, ↓reduceIte, Nat.reduceAdd, wI64, wI32, wI16, wI8, wU8, List.length_map, Int.toNat_natCast, max_nrm, mask_nrm]; try rfl) (hsl := by simp +decide (disch := omega) only [nrm, lk_nrm, dc_nrm, mk_nrm, mf_nrm, ti_nrm, ls_nrm, mp_nrm, nb_nrm, hset, pick_and, pick_or, ↓reduceIte, Nat.reduceAdd, wI64, wI32, wI16, wI8, wU8, List.length_map, Int.toNat_natCast, max_nrm, mask_nrm]; rfl)
    refine d1 T0_ok ?_ (hdn := by simp +decide (disch := omega) only [nrm, lk_nrm, dc_nrm, mk_nrm, mf_nrm, ti_nrm, ls_nrm, mp_nrm, nb_nrm, hset, pick_and, pick_or, ↓reduceIte, Nat.reduceAdd, wI64, wI32, wI16, wI8, wU8, List.length_map, Int.toNat_natCast, max_nrm, mask_nrm]; rfl) (hsl := by simp +decide (disch := omega) only [nrm, lk_nrm, dc_nrm, mk_nrm, mf_nrm, ti_nrm, ls_nrm, mp_nrm, nb_nrm, hset, pick_and, pick_or, ↓reduceIte, Nat.reduceAdd, wI64, wI32, wI16, wI8, wU8, List.length_map, Int.toNat_natCast, max_nrm, mask_nrm]; rfl)
    refine dp1 ?_ (call1 ok_I_Rack_books (_, _) [] (hpre := by (try dsimp only); first | exact hl | exact hm2)) (hdn := by simp +decide (disch := omega) only [nrm, lk_nrm, dc_nrm, mk_nrm, mf_nrm, ti_nrm, ls_nrm, mp_nrm, nb_nrm, hset, pick_and, pick_or, ↓reduceIte, Nat.reduceAdd, wI64, wI32, wI16, wI8, wU8, List.length_map, Int.toNat_natCast, max_nrm, mask_nrm]; rfl) (hhp := by simp +decide (disch := omega) only [nrm, lk_nrm, dc_nrm, mk_nrm, mf_nrm, ti_nrm, ls_nrm, mp_nrm, nb_nrm, hset, pick_and, pick_or, ↓reduceIte, Nat.reduceAdd, wI64, wI32, wI16, wI8, wU8, List.length_map, Int.toNat_natCast, max_nrm, mask_nrm]; try rfl) (hnx := by simp +decide (disch := omega) only [nrm, lk_nrm, dc_nrm, mk_nrm, mf_nrm, ti_nrm, ls_nrm, mp_nrm, nb_nrm, hset, pick_and, pick_or, ↓reduceIte, Nat.reduceAdd, wI64, wI32, wI16, wI8, wU8, List.length_map, Int.toNat_natCast, max_nrm, mask_nrm]; try rfl) (hsl := by simp +decide (disch := omega) only [nrm, lk_nrm, dc_nrm, mk_nrm, mf_nrm, ti_nrm, ls_nrm, mp_nrm, nb_nrm, hset, pick_and, pick_or, ↓reduceIte, Nat.reduceAdd, wI64, wI32, wI16, wI8, wU8, List.length_map, Int.toNat_natCast, max_nrm, mask_nrm]; rfl)
    refine dp1 ?_ (call1 ok_I_SameBooks (_, _) [] (hpre := by (try dsimp only); exact ⟨by (try simp only [List.length_map]); omega, by (try simp only [List.length_map]); omega⟩)) (hdn := by simp +decide (disch := omega) only [nrm, lk_nrm, dc_nrm, mk_nrm, mf_nrm, ti_nrm, ls_nrm, mp_nrm, nb_nrm, hset, pick_and, pick_or, ↓reduceIte, Nat.reduceAdd, wI64, wI32, wI16, wI8, wU8, List.length_map, Int.toNat_natCast, max_nrm, mask_nrm]; rfl) (hhp := by simp +decide (disch := omega) only [nrm, lk_nrm, dc_nrm, mk_nrm, mf_nrm, ti_nrm, ls_nrm, mp_nrm, nb_nrm, hset, pick_and, pick_or, ↓reduceIte, Nat.reduceAdd, wI64, wI32, wI16, wI8, wU8, List.length_map, Int.toNat_natCast, max_nrm, mask_nrm]; try rfl) (hnx := by simp +decide (disch := omega) only [nrm, lk_nrm, dc_nrm, mk_nrm, mf_nrm, ti_nrm, ls_nrm, mp_nrm, nb_nrm, hset, pick_and, pick_or, ↓reduceIte, Nat.reduceAdd, wI64, wI32, wI16, wI8, wU8, List.length_map, Int.toNat_natCast, max_nrm, mask_nrm]; try rfl) (hsl := by simp +decide (disch := omega) only [nrm, lk_nrm, dc_nrm, mk_nrm, mf_nrm, ti_nrm, ls_nrm, mp_nrm, nb_nrm, hset, pick_and, pick_or, ↓reduceIte, Nat.reduceAdd, wI64, wI32, wI16, wI8, wU8, List.length_map, Int.toNat_natCast, max_nrm, mask_nrm]; rfl)
    refine d1 T0_ok ?_ (hdn := by simp +decide (disch := omega) only [nrm, lk_nrm, dc_nrm, mk_nrm, mf_nrm, ti_nrm, ls_nrm, mp_nrm, nb_nrm, hset, pick_and, pick_or, ↓reduceIte, Nat.reduceAdd, wI64, wI32, wI16, wI8, wU8, List.length_map, Int.toNat_natCast, max_nrm, mask_nrm]; rfl) (hsl := by simp +decide (disch := omega) only [nrm, lk_nrm, dc_nrm, mk_nrm, mf_nrm, ti_nrm, ls_nrm, mp_nrm, nb_nrm, hset, pick_and, pick_or, ↓reduceIte, Nat.reduceAdd, wI64, wI32, wI16, wI8, wU8, List.length_map, Int.toNat_natCast, max_nrm, mask_nrm]; rfl)
    refine d1 T0_ok ?_ (hdn := by simp +decide (disch := omega) only [nrm, lk_nrm, dc_nrm, mk_nrm, mf_nrm, ti_nrm, ls_nrm, mp_nrm, nb_nrm, hset, pick_and, pick_or, ↓reduceIte, Nat.reduceAdd, wI64, wI32, wI16, wI8, wU8, List.length_map, Int.toNat_natCast, max_nrm, mask_nrm]; rfl) (hsl := by simp +decide (disch := omega) only [nrm, lk_nrm, dc_nrm, mk_nrm, mf_nrm, ti_nrm, ls_nrm, mp_nrm, nb_nrm, hset, pick_and, pick_or, ↓reduceIte, Nat.reduceAdd, wI64, wI32, wI16, wI8, wU8, List.length_map, Int.toNat_natCast, max_nrm, mask_nrm]; rfl)
    refine dreg_nil ?_
    refine awp_cond rfl (fun hc1 => ?_) (fun hc1 => ?_)
    · skip
      refine awp_seq ?_
      refine r1 T0_ok hP hm hN ?_
      refine g1 ?_ (hst := by simp +decide (disch := omega) only [nrm, lk_nrm, dc_nrm, mk_nrm, mf_nrm, ti_nrm, ls_nrm, mp_nrm, nb_nrm, hset, pick_and, pick_or, ↓reduceIte, Nat.reduceAdd, wI64, wI32, wI16, wI8, wU8, List.length_map, Int.toNat_natCast, max_nrm]; rfl)
      refine g1 ?_ (hst := by simp +decide (disch := omega) only [nrm, lk_nrm, dc_nrm, mk_nrm, mf_nrm, ti_nrm, ls_nrm, mp_nrm, nb_nrm, hset, pick_and, pick_or, ↓reduceIte, Nat.reduceAdd, wI64, wI32, wI16, wI8, wU8, List.length_map, Int.toNat_natCast, max_nrm]; rfl)
      refine awp_ret ?_
      refine fin_mk [] rfl rfl ?_ trivial (by decide)
      show D.tup [.val (.int .i64 (apR (!validR p xs || !validR q ys) (ask (xs.map Prod.snd = ys.map Prod.snd)) xs ys).1), .val (.int .i64 (apR (!validR p xs || !validR q ys) (ask (xs.map Prod.snd = ys.map Prod.snd)) xs ys).2)] = _
      rw [apR, if_neg (by rw [hc0]; simp), if_pos hc1]
      rfl
    · skip
      have hsm : xs.map Prod.snd = ys.map Prod.snd := ask_iff.1 (by simpa using hc1)
      have hlen : xs.length = ys.length := by have := congrArg List.length hsm; simpa using this
      refine awp_skip ?_
      refine awp_seq ?_
      refine r1 T0_ok hP hm hN ?_
      refine g1 ?_ (hst := by simp +decide (disch := omega) only [nrm, lk_nrm, dc_nrm, mk_nrm, mf_nrm, ti_nrm, ls_nrm, mp_nrm, nb_nrm, hset, pick_and, pick_or, ↓reduceIte, Nat.reduceAdd, wI64, wI32, wI16, wI8, wU8, List.length_map, Int.toNat_natCast, max_nrm]; rfl)
      refine awp_seq ?_
      refine awp_seq ?_
      refine r1 T0_ok hP hm hN ?_
      refine g1 ?_ (hst := by simp +decide (disch := omega) only [nrm, lk_nrm, dc_nrm, mk_nrm, mf_nrm, ti_nrm, ls_nrm, mp_nrm, nb_nrm, hset, pick_and, pick_or, ↓reduceIte, Nat.reduceAdd, wI64, wI32, wI16, wI8, wU8, List.length_map, Int.toNat_natCast, max_nrm]; rfl)
      refine g1 ?_ (hst := by simp +decide (disch := omega) only [nrm, lk_nrm, dc_nrm, mk_nrm, mf_nrm, ti_nrm, ls_nrm, mp_nrm, nb_nrm, hset, pick_and, pick_or, ↓reduceIte, Nat.reduceAdd, wI64, wI32, wI16, wI8, wU8, List.length_map, Int.toNat_natCast, max_nrm]; rfl)
      refine g1 ?_ (hst := by simp +decide (disch := omega) only [nrm, lk_nrm, dc_nrm, mk_nrm, mf_nrm, ti_nrm, ls_nrm, mp_nrm, nb_nrm, hset, pick_and, pick_or, ↓reduceIte, Nat.reduceAdd, wI64, wI32, wI16, wI8, wU8, List.length_map, Int.toNat_natCast, max_nrm]; rfl)
      refine g1 ?_ (hst := by simp +decide (disch := omega) only [nrm, lk_nrm, dc_nrm, mk_nrm, mf_nrm, ti_nrm, ls_nrm, mp_nrm, nb_nrm, hset, pick_and, pick_or, ↓reduceIte, Nat.reduceAdd, wI64, wI32, wI16, wI8, wU8, List.length_map, Int.toNat_natCast, max_nrm]; rfl)
      refine awp_block ?_
      refine awp_loop (fun n st => ∃ i : Nat, i ≤ xs.length ∧ n = xs.length - i ∧ st = ⟨[(29, .val (.int .i64 (i : Nat))), (28, .val (.int .i64 (xs.length : Nat))), (27, .sl 9 (pls xs)), (6, .val (.int .i64 (apF xs ys i))), (2, .ptr 0 0 0), (3, .ptr 1 0 0)], [(1, ⟨31, 2, true, [[.val (.int .i16 q), .sl 9 (pls ys)]]⟩), (0, ⟨31, 2, true, [[.val (.int .i16 p), .sl 9 (pls xs)]]⟩)], 2⟩) (xs.length) ⟨_, (by exact Weak.trans (weak_drop 3) (Weak.trans (weak_drop 2) (Weak.trans (weak_nx (nx' := 2) (by omega) (by rfl)) (weak_sl (sub_cons rfl (sub_cons rfl (sub_cons rfl (sub_cons rfl (sub_cons rfl (sub_cons rfl (sub_nil))))))))))), 0, by omega, rfl, rfl⟩ ?_
      rintro n st ⟨i, hii, hni, rfl⟩
      refine awp_seq ?_
      refine r1 T0_ok hP hm hN ?_
      refine g1 ?_ (hst := by simp +decide (disch := omega) only [nrm, lk_nrm, dc_nrm, mk_nrm, mf_nrm, ti_nrm, ls_nrm, mp_nrm, nb_nrm, hset, pick_and, pick_or, ↓reduceIte, Nat.reduceAdd, wI64, wI32, wI16, wI8, wU8, List.length_map, Int.toNat_natCast, max_nrm]; rfl)
      refine awp_seq ?_
      refine awp_cond rfl (fun hc2 => ?_) (fun hc2 => ?_)
      · skip
        have hlti : i < xs.length := by simpa using hc2
        have ha := (hv _ (getD_mem' (d := pl0) hlti)).1
        have hb := (hw _ (getD_mem' (d := pl0) (show i < ys.length by omega))).1
        have ha' : -32768 ≤ (xs.getD i pl0).1 ∧ (xs.getD i pl0).1 ≤ 32767 := ha
        have hb' : -32768 ≤ (ys.getD i pl0).1 ∧ (ys.getD i pl0).1 ≤ 32767 := hb
        have hf := apF_b hv hw i (by omega) (by omega)
        have hm1 := maxI_b ((ys.getD i pl0).1 - (xs.getD i pl0).1) ((xs.getD i pl0).1 - (ys.getD i pl0).1)
        have hm3 := maxI_b ((xs.getD i pl0).1 - (ys.getD i pl0).1) (0 - ((xs.getD i pl0).1 - (ys.getD i pl0).1))
        refine awp_skip ?_
        refine awp_seq ?_
        refine awp_block ?_
        refine awp_seq ?_
        refine r1 T0_ok hP hm hN ?_
        refine g1 ?_ (hst := by simp +decide (disch := omega) only [nrm, lk_nrm, dc_nrm, mk_nrm, mf_nrm, ti_nrm, ls_nrm, mp_nrm, nb_nrm, hset, pick_and, pick_or, ↓reduceIte, Nat.reduceAdd, wI64, wI32, wI16, wI8, wU8, List.length_map, Int.toNat_natCast, max_nrm]; rfl)
        refine g1 ?_ (hst := by simp +decide (disch := omega) only [nrm, lk_nrm, dc_nrm, mk_nrm, mf_nrm, ti_nrm, ls_nrm, mp_nrm, nb_nrm, hset, pick_and, pick_or, ↓reduceIte, Nat.reduceAdd, wI64, wI32, wI16, wI8, wU8, List.length_map, Int.toNat_natCast, max_nrm]; rfl)
        refine g1 ?_ (hst := by simp +decide (disch := omega) only [nrm, lk_nrm, dc_nrm, mk_nrm, mf_nrm, ti_nrm, ls_nrm, mp_nrm, nb_nrm, hset, pick_and, pick_or, ↓reduceIte, Nat.reduceAdd, wI64, wI32, wI16, wI8, wU8, List.length_map, Int.toNat_natCast, max_nrm]; rfl)
        refine g1 ?_ (hst := by simp +decide (disch := omega) only [nrm, lk_nrm, dc_nrm, mk_nrm, mf_nrm, ti_nrm, ls_nrm, mp_nrm, nb_nrm, hset, pick_and, pick_or, ↓reduceIte, Nat.reduceAdd, wI64, wI32, wI16, wI8, wU8, List.length_map, Int.toNat_natCast, max_nrm]; rfl)
        refine g1 ?_ (hst := by simp +decide (disch := omega) only [nrm, lk_nrm, dc_nrm, mk_nrm, mf_nrm, ti_nrm, ls_nrm, mp_nrm, nb_nrm, hset, pick_and, pick_or, ↓reduceIte, Nat.reduceAdd, wI64, wI32, wI16, wI8, wU8, List.length_map, Int.toNat_natCast, max_nrm]; rfl)
        refine g1 ?_ (hst := by simp +decide (disch := omega) only [nrm, lk_nrm, dc_nrm, mk_nrm, mf_nrm, ti_nrm, ls_nrm, mp_nrm, nb_nrm, hset, pick_and, pick_or, ↓reduceIte, Nat.reduceAdd, wI64, wI32, wI16, wI8, wU8, List.length_map, Int.toNat_natCast, max_nrm]; rfl)
        refine awp_seq ?_
        refine awp_draw T0_ok hP hm hN Pr_mix [0, 1, 2, 3, 4, 5, 6, 7, 8, 9, 10, 11] [1, 7] _ rfl (by rfl) ?_
        refine d1 T0_ok ?_ (hdn := by simp +decide (disch := omega) only [nrm, lk_nrm, dc_nrm, mk_nrm, mf_nrm, ti_nrm, ls_nrm, mp_nrm, nb_nrm, hset, pick_and, pick_or, ↓reduceIte, Nat.reduceAdd, wI64, wI32, wI16, wI8, wU8, List.length_map, Int.toNat_natCast, max_nrm, mask_nrm]; rfl) (hsl := by simp +decide (disch := omega) only [nrm, lk_nrm, dc_nrm, mk_nrm, mf_nrm, ti_nrm, ls_nrm, mp_nrm, nb_nrm, hset, pick_and, pick_or, ↓reduceIte, Nat.reduceAdd, wI64, wI32, wI16, wI8, wU8, List.length_map, Int.toNat_natCast, max_nrm, mask_nrm]; rfl)
        refine dp1 ?_ (call1 ok_I_place _ [] (hpre := by (try dsimp only); first | exact hv _ (getD_mem' (by omega)) | exact hw _ (getD_mem' (by omega)))) (hdn := by simp +decide (disch := omega) only [nrm, lk_nrm, dc_nrm, mk_nrm, mf_nrm, ti_nrm, ls_nrm, mp_nrm, nb_nrm, hset, pick_and, pick_or, ↓reduceIte, Nat.reduceAdd, wI64, wI32, wI16, wI8, wU8, List.length_map, Int.toNat_natCast, max_nrm, mask_nrm]; rfl) (hhp := by simp +decide (disch := omega) only [nrm, lk_nrm, dc_nrm, mk_nrm, mf_nrm, ti_nrm, ls_nrm, mp_nrm, nb_nrm, hset, pick_and, pick_or, ↓reduceIte, Nat.reduceAdd, wI64, wI32, wI16, wI8, wU8, List.length_map, Int.toNat_natCast, max_nrm, mask_nrm]; try rfl) (hnx := by simp +decide (disch := omega) only [nrm, lk_nrm, dc_nrm, mk_nrm, mf_nrm, ti_nrm, ls_nrm, mp_nrm, nb_nrm, hset, pick_and, pick_or, ↓reduceIte, Nat.reduceAdd, wI64, wI32, wI16, wI8, wU8, List.length_map, Int.toNat_natCast, max_nrm, mask_nrm]; try rfl) (hsl := by simp +decide (disch := omega) only [nrm, lk_nrm, dc_nrm, mk_nrm, mf_nrm, ti_nrm, ls_nrm, mp_nrm, nb_nrm, hset, pick_and, pick_or, ↓reduceIte, Nat.reduceAdd, wI64, wI32, wI16, wI8, wU8, List.length_map, Int.toNat_natCast, max_nrm, mask_nrm]; rfl)
        refine d1 T0_ok ?_ (hdn := by simp +decide (disch := omega) only [nrm, lk_nrm, dc_nrm, mk_nrm, mf_nrm, ti_nrm, ls_nrm, mp_nrm, nb_nrm, hset, pick_and, pick_or, ↓reduceIte, Nat.reduceAdd, wI64, wI32, wI16, wI8, wU8, List.length_map, Int.toNat_natCast, max_nrm, mask_nrm]; rfl) (hsl := by simp +decide (disch := omega) only [nrm, lk_nrm, dc_nrm, mk_nrm, mf_nrm, ti_nrm, ls_nrm, mp_nrm, nb_nrm, hset, pick_and, pick_or, ↓reduceIte, Nat.reduceAdd, wI64, wI32, wI16, wI8, wU8, List.length_map, Int.toNat_natCast, max_nrm, mask_nrm]; rfl)
        refine d1 T0_ok ?_ (hdn := by simp +decide (disch := omega) only [nrm, lk_nrm, dc_nrm, mk_nrm, mf_nrm, ti_nrm, ls_nrm, mp_nrm, nb_nrm, hset, pick_and, pick_or, ↓reduceIte, Nat.reduceAdd, wI64, wI32, wI16, wI8, wU8, List.length_map, Int.toNat_natCast, max_nrm, mask_nrm]; rfl) (hsl := by simp +decide (disch := omega) only [nrm, lk_nrm, dc_nrm, mk_nrm, mf_nrm, ti_nrm, ls_nrm, mp_nrm, nb_nrm, hset, pick_and, pick_or, ↓reduceIte, Nat.reduceAdd, wI64, wI32, wI16, wI8, wU8, List.length_map, Int.toNat_natCast, max_nrm, mask_nrm]; rfl)
        refine d1 T0_ok ?_ (hdn := by simp +decide (disch := omega) only [nrm, lk_nrm, dc_nrm, mk_nrm, mf_nrm, ti_nrm, ls_nrm, mp_nrm, nb_nrm, hset, pick_and, pick_or, ↓reduceIte, Nat.reduceAdd, wI64, wI32, wI16, wI8, wU8, List.length_map, Int.toNat_natCast, max_nrm, mask_nrm]; rfl) (hsl := by simp +decide (disch := omega) only [nrm, lk_nrm, dc_nrm, mk_nrm, mf_nrm, ti_nrm, ls_nrm, mp_nrm, nb_nrm, hset, pick_and, pick_or, ↓reduceIte, Nat.reduceAdd, wI64, wI32, wI16, wI8, wU8, List.length_map, Int.toNat_natCast, max_nrm, mask_nrm]; rfl)
        refine d1 T0_ok ?_ (hdn := by simp +decide (disch := omega) only [nrm, lk_nrm, dc_nrm, mk_nrm, mf_nrm, ti_nrm, ls_nrm, mp_nrm, nb_nrm, hset, pick_and, pick_or, ↓reduceIte, Nat.reduceAdd, wI64, wI32, wI16, wI8, wU8, List.length_map, Int.toNat_natCast, max_nrm, mask_nrm]; rfl) (hsl := by simp +decide (disch := omega) only [nrm, lk_nrm, dc_nrm, mk_nrm, mf_nrm, ti_nrm, ls_nrm, mp_nrm, nb_nrm, hset, pick_and, pick_or, ↓reduceIte, Nat.reduceAdd, wI64, wI32, wI16, wI8, wU8, List.length_map, Int.toNat_natCast, max_nrm, mask_nrm]; rfl)
        refine d1 T0_ok ?_ (hdn := by simp +decide (disch := omega) only [nrm, lk_nrm, dc_nrm, mk_nrm, mf_nrm, ti_nrm, ls_nrm, mp_nrm, nb_nrm, hset, pick_and, pick_or, ↓reduceIte, Nat.reduceAdd, wI64, wI32, wI16, wI8, wU8, List.length_map, Int.toNat_natCast, max_nrm, mask_nrm]; rfl) (hsl := by simp +decide (disch := omega) only [nrm, lk_nrm, dc_nrm, mk_nrm, mf_nrm, ti_nrm, ls_nrm, mp_nrm, nb_nrm, hset, pick_and, pick_or, ↓reduceIte, Nat.reduceAdd, wI64, wI32, wI16, wI8, wU8, List.length_map, Int.toNat_natCast, max_nrm, mask_nrm]; rfl)
        refine dp1 ?_ (call1 ok_I_place _ [] (hpre := by (try dsimp only); first | exact hv _ (getD_mem' (by omega)) | exact hw _ (getD_mem' (by omega)))) (hdn := by simp +decide (disch := omega) only [nrm, lk_nrm, dc_nrm, mk_nrm, mf_nrm, ti_nrm, ls_nrm, mp_nrm, nb_nrm, hset, pick_and, pick_or, ↓reduceIte, Nat.reduceAdd, wI64, wI32, wI16, wI8, wU8, List.length_map, Int.toNat_natCast, max_nrm, mask_nrm]; rfl) (hhp := by simp +decide (disch := omega) only [nrm, lk_nrm, dc_nrm, mk_nrm, mf_nrm, ti_nrm, ls_nrm, mp_nrm, nb_nrm, hset, pick_and, pick_or, ↓reduceIte, Nat.reduceAdd, wI64, wI32, wI16, wI8, wU8, List.length_map, Int.toNat_natCast, max_nrm, mask_nrm]; try rfl) (hnx := by simp +decide (disch := omega) only [nrm, lk_nrm, dc_nrm, mk_nrm, mf_nrm, ti_nrm, ls_nrm, mp_nrm, nb_nrm, hset, pick_and, pick_or, ↓reduceIte, Nat.reduceAdd, wI64, wI32, wI16, wI8, wU8, List.length_map, Int.toNat_natCast, max_nrm, mask_nrm]; try rfl) (hsl := by simp +decide (disch := omega) only [nrm, lk_nrm, dc_nrm, mk_nrm, mf_nrm, ti_nrm, ls_nrm, mp_nrm, nb_nrm, hset, pick_and, pick_or, ↓reduceIte, Nat.reduceAdd, wI64, wI32, wI16, wI8, wU8, List.length_map, Int.toNat_natCast, max_nrm, mask_nrm]; rfl)
        refine d1 T0_ok ?_ (hdn := by simp +decide (disch := omega) only [nrm, lk_nrm, dc_nrm, mk_nrm, mf_nrm, ti_nrm, ls_nrm, mp_nrm, nb_nrm, hset, pick_and, pick_or, ↓reduceIte, Nat.reduceAdd, wI64, wI32, wI16, wI8, wU8, List.length_map, Int.toNat_natCast, max_nrm, mask_nrm]; rfl) (hsl := by simp +decide (disch := omega) only [nrm, lk_nrm, dc_nrm, mk_nrm, mf_nrm, ti_nrm, ls_nrm, mp_nrm, nb_nrm, hset, pick_and, pick_or, ↓reduceIte, Nat.reduceAdd, wI64, wI32, wI16, wI8, wU8, List.length_map, Int.toNat_natCast, max_nrm, mask_nrm]; rfl)
        refine d1 T0_ok ?_ (hdn := by simp +decide (disch := omega) only [nrm, lk_nrm, dc_nrm, mk_nrm, mf_nrm, ti_nrm, ls_nrm, mp_nrm, nb_nrm, hset, pick_and, pick_or, ↓reduceIte, Nat.reduceAdd, wI64, wI32, wI16, wI8, wU8, List.length_map, Int.toNat_natCast, max_nrm, mask_nrm]; rfl) (hsl := by simp +decide (disch := omega) only [nrm, lk_nrm, dc_nrm, mk_nrm, mf_nrm, ti_nrm, ls_nrm, mp_nrm, nb_nrm, hset, pick_and, pick_or, ↓reduceIte, Nat.reduceAdd, wI64, wI32, wI16, wI8, wU8, List.length_map, Int.toNat_natCast, max_nrm, mask_nrm]; rfl)
        refine dreg_nil ?_
        refine r1 T0_ok hP hm hN ?_
        refine g1 ?_ (hst := by simp +decide (disch := omega) only [nrm, lk_nrm, dc_nrm, mk_nrm, mf_nrm, ti_nrm, ls_nrm, mp_nrm, nb_nrm, hset, pick_and, pick_or, ↓reduceIte, Nat.reduceAdd, wI64, wI32, wI16, wI8, wU8, List.length_map, Int.toNat_natCast, max_nrm]; rfl)
        refine g1 ?_ (hst := by simp +decide (disch := omega) only [nrm, lk_nrm, dc_nrm, mk_nrm, mf_nrm, ti_nrm, ls_nrm, mp_nrm, nb_nrm, hset, pick_and, pick_or, ↓reduceIte, Nat.reduceAdd, wI64, wI32, wI16, wI8, wU8, List.length_map, Int.toNat_natCast, max_nrm]; rfl)
        refine g1 ?_ (hst := by simp +decide (disch := omega) only [nrm, lk_nrm, dc_nrm, mk_nrm, mf_nrm, ti_nrm, ls_nrm, mp_nrm, nb_nrm, hset, pick_and, pick_or, ↓reduceIte, Nat.reduceAdd, wI64, wI32, wI16, wI8, wU8, List.length_map, Int.toNat_natCast, max_nrm]; rfl)
        refine g1 ?_ (hst := by simp +decide (disch := omega) only [nrm, lk_nrm, dc_nrm, mk_nrm, mf_nrm, ti_nrm, ls_nrm, mp_nrm, nb_nrm, hset, pick_and, pick_or, ↓reduceIte, Nat.reduceAdd, wI64, wI32, wI16, wI8, wU8, List.length_map, Int.toNat_natCast, max_nrm]; rfl)
        refine g1 ?_ (hst := by simp +decide (disch := omega) only [nrm, lk_nrm, dc_nrm, mk_nrm, mf_nrm, ti_nrm, ls_nrm, mp_nrm, nb_nrm, hset, pick_and, pick_or, ↓reduceIte, Nat.reduceAdd, wI64, wI32, wI16, wI8, wU8, List.length_map, Int.toNat_natCast, max_nrm]; rfl)
        refine g1 ?_ (hst := by simp +decide (disch := omega) only [nrm, lk_nrm, dc_nrm, mk_nrm, mf_nrm, ti_nrm, ls_nrm, mp_nrm, nb_nrm, hset, pick_and, pick_or, ↓reduceIte, Nat.reduceAdd, wI64, wI32, wI16, wI8, wU8, List.length_map, Int.toNat_natCast, max_nrm]; rfl)
        refine g1 ?_ (hst := by simp +decide (disch := omega) only [nrm, lk_nrm, dc_nrm, mk_nrm, mf_nrm, ti_nrm, ls_nrm, mp_nrm, nb_nrm, hset, pick_and, pick_or, ↓reduceIte, Nat.reduceAdd, wI64, wI32, wI16, wI8, wU8, List.length_map, Int.toNat_natCast, max_nrm]; rfl)
        refine r1 T0_ok hP hm hN ?_
        refine g1 ?_ (hst := by simp +decide (disch := omega) only [nrm, lk_nrm, dc_nrm, mk_nrm, mf_nrm, ti_nrm, ls_nrm, mp_nrm, nb_nrm, hset, pick_and, pick_or, ↓reduceIte, Nat.reduceAdd, wI64, wI32, wI16, wI8, wU8, List.length_map, Int.toNat_natCast, max_nrm]; rfl)
        refine g1 ?_ (hst := by simp +decide (disch := omega) only [nrm, lk_nrm, dc_nrm, mk_nrm, mf_nrm, ti_nrm, ls_nrm, mp_nrm, nb_nrm, hset, pick_and, pick_or, ↓reduceIte, Nat.reduceAdd, wI64, wI32, wI16, wI8, wU8, List.length_map, Int.toNat_natCast, max_nrm]; rfl)
        refine ⟨xs.length - (i + 1), _, by omega, (by rw [show apF xs ys (i + 1) = apF xs ys i + maxI ((xs.getD i pl0).1 - (ys.getD i pl0).1) (0 - ((xs.getD i pl0).1 - (ys.getD i pl0).1)) by rw [apD_neg]; rfl]; exact Weak.trans (weak_drop 2) (Weak.trans (weak_nx (nx' := 2) (by omega) (by rfl)) (weak_sl (sub_cons rfl (sub_cons rfl (sub_cons rfl (sub_cons rfl (sub_cons rfl (sub_cons rfl (sub_nil)))))))))), i + 1, by omega, rfl, rfl⟩
      · skip
        have hgei : ¬ i < xs.length := by simpa using hc2
        have heqi : i = xs.length := by omega
        rw [heqi]
        refine awp_exit ?_
        repeat refine thenA_exit ?_
        refine blockA_hit ?_
        refine awp_seq ?_
        refine r1 T0_ok hP hm hN ?_
        refine g1 ?_ (hst := by simp +decide (disch := omega) only [nrm, lk_nrm, dc_nrm, mk_nrm, mf_nrm, ti_nrm, ls_nrm, mp_nrm, nb_nrm, hset, pick_and, pick_or, ↓reduceIte, Nat.reduceAdd, wI64, wI32, wI16, wI8, wU8, List.length_map, Int.toNat_natCast, max_nrm]; rfl)
        refine g1 ?_ (hst := by simp +decide (disch := omega) only [nrm, lk_nrm, dc_nrm, mk_nrm, mf_nrm, ti_nrm, ls_nrm, mp_nrm, nb_nrm, hset, pick_and, pick_or, ↓reduceIte, Nat.reduceAdd, wI64, wI32, wI16, wI8, wU8, List.length_map, Int.toNat_natCast, max_nrm]; rfl)
        refine g1 ?_ (hst := by simp +decide (disch := omega) only [nrm, lk_nrm, dc_nrm, mk_nrm, mf_nrm, ti_nrm, ls_nrm, mp_nrm, nb_nrm, hset, pick_and, pick_or, ↓reduceIte, Nat.reduceAdd, wI64, wI32, wI16, wI8, wU8, List.length_map, Int.toNat_natCast, max_nrm]; rfl)
        refine awp_ret ?_
        refine fin_mk [] rfl rfl ?_ trivial (by decide)
        show D.tup [.val (.int .i64 (apR (!validR p xs || !validR q ys) (ask (xs.map Prod.snd = ys.map Prod.snd)) xs ys).1), .val (.int .i64 (apR (!validR p xs || !validR q ys) (ask (xs.map Prod.snd = ys.map Prod.snd)) xs ys).2)] = _
        rw [apR, if_neg (by rw [hc0]; simp), if_neg (by rw [hc1]; simp)]
        rfl

noncomputable abbrev s_L_FnExactMoveApart : Spec ((Int × List Pl) × (Int × List Pl)) where
  args := fun x => [.agg [.val (.int .i16 x.1.1), .sl 9 (pls x.1.2)], .agg [.val (.int .i16 x.2.1), .sl 9 (pls x.2.2)]]
  pre := fun x => (isI16 x.1.1 ∧ (∀ b ∈ x.1.2, isPl b) ∧ x.1.2.length ≤ 9223372036854775807) ∧ (isI16 x.2.1 ∧ (∀ b ∈ x.2.2, isPl b) ∧ x.2.2.length ≤ 9223372036854775807)
  res := fun x => .val (.bool true)

set_option maxRecDepth 20000 in
set_option maxHeartbeats 4000000 in
theorem ok_L_FnExactMoveApart : FnOk Pr 3 s_L_FnExactMoveApart := by
  refine fn_ok 2 0 T0_ok Go.Proofs.Try.func3 rfl (enters_of Go.Proofs.Try.func3 rfl rfl) (fun _ => rfl) (fun _ => rfl) (fun _ => rfl) ?_
  rintro ⟨⟨p, xs⟩, q, ys⟩ ⟨⟨hpp, hv, hl0⟩, ⟨hqq, hw, hl1⟩⟩ C hP hN hm hG
  change awp C _ _ ⟨[(0, .agg [.val (.int .i16 p), .sl 9 (pls xs)]), (1, .agg [.val (.int .i16 q), .sl 9 (pls ys)])], [], 0⟩
  simp only at hpp hv hqq hw hl0 hl1
  refine awp_seq ?_
  refine r1 T0_ok hP hm hN ?_
  refine g1 ?_
  refine g1 ?_
  refine g1 ?_
  refine awp_seq ?_
  refine r1 T0_ok hP hm hN ?_
  refine g1 ?_
  refine awp_seq ?_
  refine r1 T0_ok hP hm hN ?_
  refine g1 ?_
  refine g1 ?_
  refine gc1 ?_ (call1 ok_L_szRack ((_, _), _) [] (hpre := by (try dsimp only); exact ⟨by assumption, by omega, by omega⟩))
  refine g1 ?_
  refine awp_seq ?_
  refine awp_seq ?_
  refine r1 T0_ok hP hm hN ?_
  refine g1 ?_
  refine g1 ?_
  refine awp_cond rfl (fun hc0 => ?_) (fun hc0 => ?_)
  · skip
    refine awp_seq ?_
    refine r1 T0_ok hP hm hN ?_
    refine g1 ?_
    refine awp_ret ?_
    refine fin_mk [] rfl rfl ?_ trivial (by decide)
    rfl
  · skip
    have hl : xs.length ≤ 1048576 := by simp only [decide_eq_false_iff_not] at hc0; split at hc0 <;> omega
    rw [if_pos (by omega)] at *
    refine awp_skip ?_
    refine awp_seq ?_
    refine r1 T0_ok hP hm hN ?_
    refine g1 ?_
    refine g1 ?_
    refine gc1 ?_ (call1 ok_L_szRack ((_, _), _) [] (hpre := by (try dsimp only); exact ⟨by assumption, by omega, by omega⟩))
    refine g1 ?_
    refine awp_seq ?_
    refine awp_seq ?_
    refine r1 T0_ok hP hm hN ?_
    refine g1 ?_
    refine g1 ?_
    refine awp_cond rfl (fun hc1 => ?_) (fun hc1 => ?_)
    · skip
      refine awp_seq ?_
      refine r1 T0_ok hP hm hN ?_
      refine g1 ?_
      refine awp_ret ?_
      refine fin_mk [] rfl rfl ?_ trivial (by decide)
      rfl
    · skip
      have hm2 : ys.length ≤ 1048576 := by simp only [decide_eq_false_iff_not] at hc1; split at hc1 <;> omega
      refine awp_skip ?_
      refine awp_seq ?_
      refine awp_draw T0_ok hP hm hN Pr_mix [0, 1, 2, 3, 4, 5, 6, 7, 8, 9, 10, 11] [1, 3, 4] _ rfl (by rfl) ?_
      refine d1 T0_ok ?_
      refine dp1 ?_ (call1 ok_L_toRack (_, _) [] (hpre := by (try dsimp only); assumption))
      refine d1 T0_ok ?_
      refine dp1 ?_ (call1 ok_L_toRack (_, _) [] (hpre := by (try dsimp only); assumption))
      refine dp1 ?_ (call1 ok_S_MoveApart ((_, _), (_, _)) [] (hpre := by (try dsimp only); exact ⟨⟨⟨hpp, hv⟩, hl⟩, ⟨hqq, hw⟩, hm2⟩))
      refine d1 T0_ok ?_
      refine d1 T0_ok ?_
      refine d1 T0_ok ?_
      refine d1 T0_ok ?_
      refine d1 T0_ok ?_
      refine dreg_nil ?_
      refine awp_seq ?_
      refine r1 T0_ok hP hm hN ?_
      refine g1 ?_
      refine gc1 ?_ (call1 ok_L_toRack (_, _) [] (hpre := by (try dsimp only); assumption))
      refine g1 ?_
      refine g1 ?_
      refine awp_seq ?_
      refine r1 T0_ok hP hm hN ?_
      refine g1 ?_
      refine gc1 ?_ (call1 ok_L_toRack (_, _) [] (hpre := by (try dsimp only); assumption))
      refine g1 ?_
      refine g1 ?_
      refine awp_seq ?_
      refine r1 T0_ok hP hm hN ?_
      refine g1 ?_
      refine g1 ?_
      refine gc1 ?_ (call1 ok_I_MoveApart ((_, _), (_, _)) [] (hpre := by (try dsimp only); exact ⟨⟨⟨hpp, hv⟩, hl⟩, ⟨hqq, hw⟩, hm2⟩))
      refine g1 ?_
      refine g1 ?_
      refine g1 ?_
      refine g1 ?_
      refine g1 ?_
      refine awp_seq ?_
      refine awp_seq ?_
      refine r1 T0_ok hP hm hN ?_
      refine g1 ?_
      refine g1 ?_
      refine g1 ?_
      refine g1 ?_
      refine gg1 ?_
      refine gg1 ?_
      refine gg1 ?_
      refine g1 ?_
      refine awp_cond rfl (fun hc2 => ?_) (fun hc2 => ?_)
      · skip
        exfalso; rw [okR_validR, okR_validR] at hc2; simp at hc2
      · skip
        refine awp_skip ?_
        refine awp_seq ?_
        refine awp_seq ?_
        refine awp_draw T0_ok hP hm hN Pr_mix [0, 1, 2, 3, 4, 5, 6, 7, 8, 9, 10, 11] [2, 3] _ rfl (by rfl) ?_
        refine d1 T0_ok ?_
        refine d1 T0_ok ?_
        refine dp1 ?_ (call1 ok_L_toRack (_, _) [] (hpre := by (try dsimp only); assumption))
        refine dp1 ?_ (call1 ok_L_eqRack ((_, _), (_, _)) [] (hpre := by (try dsimp only); exact ⟨by omega, by omega⟩))
        refine d1 T0_ok ?_
        refine dreg_nil ?_
        refine awp_cond rfl (fun hc3 => ?_) (fun hc3 => ?_)
        · skip
          exfalso; simp [ask] at hc3
        · skip
          refine awp_skip ?_
          refine awp_seq ?_
          refine awp_seq ?_
          refine awp_draw T0_ok hP hm hN Pr_mix [0, 1, 2, 3, 4, 5, 6, 7, 8, 9, 10, 11] [2, 3] _ rfl (by rfl) ?_
          refine d1 T0_ok ?_
          refine d1 T0_ok ?_
          refine dp1 ?_ (call1 ok_L_toRack (_, _) [] (hpre := by (try dsimp only); assumption))
          refine dp1 ?_ (call1 ok_L_eqRack ((_, _), (_, _)) [] (hpre := by (try dsimp only); exact ⟨by omega, by omega⟩))
          refine d1 T0_ok ?_
          refine dreg_nil ?_
          refine awp_cond rfl (fun hc4 => ?_) (fun hc4 => ?_)
          · skip
            exfalso; simp [ask] at hc4
          · skip
            refine awp_skip ?_
            refine awp_seq ?_
            refine r1 T0_ok hP hm hN ?_
            refine g1 ?_
            refine awp_ret ?_
            refine fin_mk [] rfl rfl ?_ trivial (by decide)
            rfl
end Go.Proofs.Ytogcjjmcjlnloaa.Abs
