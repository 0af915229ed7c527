import Derived.Test.YtpdkhlpmiblflaaGreatD8
set_option linter.unusedVariables false
set_option linter.unusedSimpArgs false
namespace Go.Proofs.YtpdkhlpmiblflaaGreat.Abs
open Go Go.RowKit
noncomputable abbrev s_S_l03Small : Spec (List Bk) where
  args := fun xs => [.sl 8 (bks xs)]
  pre := fun xs => (∀ b ∈ xs, isBk b) ∧ xs.length ≤ 1048576
  res := fun xs => .val (.int .i64 (codeK xs))

set_option maxRecDepth 20000 in
set_option maxHeartbeats 1000000 in
theorem ok_S_l03Small : FnOk Pr 25 s_S_l03Small := by
 refine fn_ok 1 0 T0_ok Go.Proofs.Tryz.func25 rfl (enters_of Go.Proofs.Tryz.func25 rfl rfl) (fun _ => rfl) (fun _ => rfl) (fun _ => rfl) ?_
 rintro xs ⟨hv, hl⟩ C hP hN hm hG
 change awp C _ _ ⟨[(0, .sl 8 (bks xs))], [], 0⟩
 refine awp_seq ?_
 refine r1 T0_ok hP hm hN ?_
 refine g1 ?_
 refine awp_seq ?_
 refine awp_seq ?_
 refine r1 T0_ok hP hm hN ?_
 refine g1 ?_
 refine gc1 ?_ (call1 ok_S_l01Ok _ [] (hpre := by (try dsimp only); exact ⟨hv, by omega⟩))
 refine g1 ?_
 refine awp_cond rfl (fun hc0 => ?_) (fun hc0 => ?_)
 ·
  have hr : codeK xs = 1 := by rw [codeK, if_pos hc0]
  refine awp_seq ?_
  refine r1 T0_ok hP hm hN ?_
  refine g1 ?_
  refine awp_ret ?_
  refine fin_mk [] rfl rfl ?_ trivial (by decide)
  show D.val (.int .i64 (codeK xs)) = _
  rw [hr]
  rfl
 ·
  refine awp_skip ?_
  refine awp_seq ?_
  refine awp_seq ?_
  refine r1 T0_ok hP hm hN ?_
  iterate 3 refine g1 ?_
  refine awp_cond rfl (fun hc1 => ?_) (fun hc1 => ?_)
  ·
   have hr : codeK xs = 3 := by rw [codeK, if_neg (by rw [hc0]; simp), if_pos hc1]
   refine awp_seq ?_
   refine r1 T0_ok hP hm hN ?_
   refine g1 ?_
   refine awp_ret ?_
   refine fin_mk [] rfl rfl ?_ trivial (by decide)
   show D.val (.int .i64 (codeK xs)) = _
   rw [hr]
   rfl
  ·
   have hr : codeK xs = 0 := by rw [codeK, if_neg (by rw [hc0]; simp), if_neg (by rw [hc1]; simp)]
   refine awp_skip ?_
   refine awp_seq ?_
   refine r1 T0_ok hP hm hN ?_
   refine g1 ?_
   refine awp_ret ?_
   refine fin_mk [] rfl rfl ?_ trivial (by decide)
   show D.val (.int .i64 (codeK xs)) = _
   rw [hr]
   rfl

noncomputable abbrev s_S_l03Order : Spec (List Bk) where
  args := fun xs => [.sl 8 (bks xs)]
  pre := fun xs => (∀ b ∈ xs, isBk b) ∧ xs.length ≤ 60
  new := fun xs => [⟨2, 1, false, i64s (ordN xs)⟩]
  res := fun xs => .own 0

set_option maxRecDepth 20000 in
set_option maxHeartbeats 8000000 in
theorem ok_S_l03Order : FnOk Pr 26 s_S_l03Order := by
 refine fn_ok 1 0 T0_ok Go.Proofs.Tryz.func26 rfl (enters_of Go.Proofs.Tryz.func26 rfl rfl) (fun _ => rfl) (fun _ => rfl) (fun _ => rfl) ?_
 rintro xs ⟨hv, hl⟩ C hP hN hm hG
 change awp C _ _ ⟨[(0, .sl 8 (bks xs))], [], 0⟩
 refine awp_seq ?_
 refine r1 T0_ok hP hm hN ?_
 refine g1 ?_
 refine awp_seq ?_
 refine r1 T0_ok hP hm hN ?_
 iterate 2 refine g1 ?_
 refine awp_seq ?_
 refine awp_seq ?_
 refine r1 T0_ok hP hm hN ?_
 refine g1 ?_
 refine awp_block ?_
 refine awp_loop (fun n st => ∃ i : Nat, i ≤ xs.length ∧ n = xs.length - i ∧ st = ⟨[(4, .val (.int .i64 ((i : Nat) : Int))), (3, .own 0), (0, .sl 8 (bks xs))], [(0, ⟨2, 1, false, i64s (mapF (fun b : Bk => ((rankN xs b : Nat) : Int)) xs i)⟩)], 1⟩) (xs.length) ⟨_, weak_sl (sub_cons rfl (sub_cons rfl (sub_cons rfl (sub_nil)))), 0, by omega, rfl, rfl⟩ ?_
 rintro n st ⟨i, hii, hni, rfl⟩
 have hml := mapF_len (fun b : Bk => ((rankN xs b : Nat) : Int)) xs hii
 refine awp_seq ?_
 refine awp_seq ?_
 refine r1 T0_ok hP hm hN ?_
 iterate 4 refine g1 ?_
 refine awp_cond rfl (fun hc0 => ?_) (fun hc0 => ?_)
 ·
  have hlti : i < xs.length := by simpa using hc0
  refine awp_skip ?_
  refine awp_seq ?_
  refine awp_block ?_
  refine awp_seq ?_
  refine r1 T0_ok hP hm hN ?_
  refine g1 ?_
  refine awp_seq ?_
  refine awp_seq ?_
  refine r1 T0_ok hP hm hN ?_
  refine g1 ?_
  refine awp_block ?_
  refine awp_loop (fun n st => ∃ k : Nat, k ≤ xs.length ∧ n = xs.length - k ∧ st = ⟨[(6, .val (.int .i64 ((k : Nat) : Int))), (5, .val (.int .i64 ((cntB xs (xs.getD i bk0) k : Nat) : Int))), (4, .val (.int .i64 ((i : Nat) : Int))), (3, .own 0), (0, .sl 8 (bks xs))], [(0, ⟨2, 1, false, i64s (mapF (fun b : Bk => ((rankN xs b : Nat) : Int)) xs i)⟩)], 1⟩) (xs.length) ⟨_, weak_sl (sub_cons rfl (sub_cons rfl (sub_cons rfl (sub_cons rfl (sub_cons rfl (sub_nil)))))), 0, by omega, rfl, rfl⟩ ?_
  rintro n st ⟨k, hik, hnk, rfl⟩
  have hcl := cntB_le xs (xs.getD i bk0) k
  refine awp_seq ?_
  refine awp_seq ?_
  refine r1 T0_ok hP hm hN ?_
  iterate 4 refine g1 ?_
  refine awp_cond rfl (fun hc1 => ?_) (fun hc1 => ?_)
  ·
   have hltk : k < xs.length := by simpa using hc1
   refine awp_skip ?_
   refine awp_seq ?_
   refine awp_block ?_
   refine awp_seq ?_
   refine awp_draw T0_ok hP hm hN Pr_mix [0, 1, 2, 3, 4, 5, 6, 7, 8, 9, 10, 11] [6] _ rfl (by rfl) ?_
   iterate 6 refine d1 T0_ok ?_
   refine dp1 ?_ (call1 ok_S_l01Usual ((_, _, _, 0, xs.getD k bk0), (_, _, _, 0, xs.getD i bk0), false) [] (hpre := by (try dsimp only); exact ⟨⟨bks_get _ _ (by omega), hv _ (getD_mem' (by omega))⟩, ⟨bks_get _ _ (by omega), hv _ (getD_mem' (by omega))⟩⟩))
   refine d1 T0_ok ?_
   refine dreg_nil ?_
   refine awp_cond rfl (fun hc2 => ?_) (fun hc2 => ?_)
   ·
    have hcs := cntB_yes hltk hc2
    refine r1 T0_ok hP hm hN ?_
    iterate 3 refine g1 ?_
    refine r1 T0_ok hP hm hN ?_
    iterate 3 refine g1 ?_
    refine ⟨xs.length - (k + 1), _, by omega, ?_, k + 1, by omega, rfl, rfl⟩
    first
      | exact (by rw [show (((cntB xs (xs.getD i bk0) (k + 1) : Nat) : Int)) = ((cntB xs (xs.getD i bk0) k : Nat) : Int) + 1 by rw [hcs]; omega]; exact weak_sl (sub_cons rfl (sub_cons rfl (sub_cons rfl (sub_cons rfl (sub_cons rfl (sub_nil)))))))
      | exact (by rw [show (((cntB xs (xs.getD i bk0) (k + 1) : Nat) : Int)) = ((cntB xs (xs.getD i bk0) k : Nat) : Int) by rw [hcs]]; exact weak_sl (sub_cons rfl (sub_cons rfl (sub_cons rfl (sub_cons rfl (sub_cons rfl (sub_nil)))))))
   ·
    have hcs := cntB_no hltk hc2
    refine awp_skip ?_
    refine r1 T0_ok hP hm hN ?_
    iterate 3 refine g1 ?_
    refine ⟨xs.length - (k + 1), _, by omega, ?_, k + 1, by omega, rfl, rfl⟩
    first
      | exact (by rw [show (((cntB xs (xs.getD i bk0) (k + 1) : Nat) : Int)) = ((cntB xs (xs.getD i bk0) k : Nat) : Int) + 1 by rw [hcs]; omega]; exact weak_sl (sub_cons rfl (sub_cons rfl (sub_cons rfl (sub_cons rfl (sub_cons rfl (sub_nil)))))))
      | exact (by rw [show (((cntB xs (xs.getD i bk0) (k + 1) : Nat) : Int)) = ((cntB xs (xs.getD i bk0) k : Nat) : Int) by rw [hcs]]; exact weak_sl (sub_cons rfl (sub_cons rfl (sub_cons rfl (sub_cons rfl (sub_cons rfl (sub_nil)))))))
  ·
   have hgek : ¬ k < xs.length := by simpa using hc1
   obtain rfl : k = xs.length := by omega
   have hrk : cntB xs (xs.getD i bk0) xs.length = rankN xs (xs.getD i bk0) := rfl
   refine awp_exit ?_
   repeat refine thenA_exit ?_
   refine blockA_hit ?_
   refine r1 T0_ok hP hm hN ?_
   iterate 3 refine g1 ?_
   refine ga1 ?_
   refine g1 ?_
   refine r1 T0_ok hP hm hN ?_
   iterate 3 refine g1 ?_
   refine ⟨xs.length - (i + 1), _, by omega, (by rw [mapF_succ (d := bk0) (fun b : Bk => ((rankN xs b : Nat) : Int)) hlti, i64s_app]; exact Weak.trans (weak_drop 1) (Weak.trans (weak_nx (nx' := 1) (by omega) (by rfl)) (weak_sl (sub_cons rfl (sub_cons rfl (sub_cons rfl (sub_nil))))))), i + 1, by omega, rfl, rfl⟩
 ·
  have hgei : ¬ i < xs.length := by simpa using hc0
  have heqi : i = xs.length := by omega
  rw [heqi, mapF_all]
  refine awp_exit ?_
  repeat refine thenA_exit ?_
  refine blockA_hit ?_
  refine awp_seq ?_
  refine r1 T0_ok hP hm hN ?_
  iterate 2 refine g1 ?_
  refine awp_ret ?_
  refine fin_mk [0] rfl rfl ?_ (objs_cons rfl rfl rfl rfl rfl (.inl rfl) objs_nil) (by decide)
  rfl

theorem code6_take {x : Nd} {i : Nat} (h : i < x.length) : code6 (x.take (i + 1)) = code6 (x.take i) * 6 + x.getD i 0 := by
  have e : x.getD i 0 = x[i] := by simp [List.getD, h]
  rw [List.take_succ_eq_append_getElem h, code6_snoc, e]
theorem okN_take {m : Nat} {x : Nd} (h : okN m x) {i : Nat} (hi : i ≤ m) : okN i (x.take i) := ⟨by rw [List.length_take, h.1]; omega, fun r hr => h.2 r (List.mem_of_mem_take hr)⟩
theorem code6_tb {m : Nat} {x : Nd} (h : okN m x) (hm6 : m ≤ 6) {i : Nat} (hi : i ≤ m) : 0 ≤ code6 (x.take i) ∧ code6 (x.take i) < 46656 := code6_lt (by omega) (okN_take h hi)

noncomputable abbrev s_S_l03Code : Spec Nd where
  args := fun x => [.sl 1 (i64s x)]
  pre := fun x => okN x.length x ∧ x.length ≤ 6
  res := fun x => .val (.int .i64 (code6 x))

set_option maxRecDepth 20000 in
set_option maxHeartbeats 1000000 in
theorem ok_S_l03Code : FnOk Pr 28 s_S_l03Code := by
 refine fn_ok 1 0 T0_ok Go.Proofs.Tryz.func28 rfl (enters_of Go.Proofs.Tryz.func28 rfl rfl) (fun _ => rfl) (fun _ => rfl) (fun _ => rfl) ?_
 rintro x ⟨hok, hl6⟩ C hP hN hm hG
 change awp C _ _ ⟨[(0, .sl 1 (i64s x))], [], 0⟩
 refine awp_seq ?_
 refine r1 T0_ok hP hm hN ?_
 refine g1 ?_
 refine awp_seq ?_
 refine r1 T0_ok hP hm hN ?_
 refine g1 ?_
 refine awp_seq ?_
 refine awp_seq ?_
 refine r1 T0_ok hP hm hN ?_
 refine g1 ?_
 refine awp_block ?_
 refine awp_loop (fun n st => ∃ i : Nat, i ≤ x.length ∧ n = x.length - i ∧ st = ⟨[(4, .val (.int .i64 ((i : Nat) : Int))), (3, .val (.int .i64 (code6 (x.take i)))), (0, .sl 1 (i64s x))], [], 0⟩) (x.length) ⟨_, (by rw [show code6 (x.take 0) = 0 from rfl]; exact weak_sl (sub_cons rfl (sub_cons rfl (sub_cons rfl (sub_nil))))), 0, by omega, rfl, rfl⟩ ?_
 rintro n st ⟨i, hii, hni, rfl⟩
 have hcb := code6_tb hok hl6 (i := i) (by omega)
 refine awp_seq ?_
 refine awp_seq ?_
 refine r1 T0_ok hP hm hN ?_
 iterate 4 refine g1 ?_
 refine awp_cond rfl (fun hc0 => ?_) (fun hc0 => ?_)
 ·
  have hlti : i < x.length := by simpa using hc0
  have hxr := hok.2 _ (getD_mem' (d := 0) hlti)
  refine awp_skip ?_
  refine awp_seq ?_
  refine awp_block ?_
  refine r1 T0_ok hP hm hN ?_
  iterate 8 refine g1 ?_
  refine r1 T0_ok hP hm hN ?_
  iterate 3 refine g1 ?_
  refine ⟨x.length - (i + 1), _, by omega, (by rw [code6_take hlti]; exact weak_sl (sub_cons rfl (sub_cons rfl (sub_cons rfl (sub_nil))))), i + 1, by omega, rfl, rfl⟩
 ·
  have hgei : ¬ i < x.length := by simpa using hc0
  have heqi : i = x.length := by omega
  rw [heqi, List.take_length]
  refine awp_exit ?_
  repeat refine thenA_exit ?_
  refine blockA_hit ?_
  refine awp_seq ?_
  refine r1 T0_ok hP hm hN ?_
  iterate 2 refine g1 ?_
  refine awp_ret ?_
  refine fin_mk [] rfl rfl ?_ trivial (by decide)
  rfl

noncomputable abbrev s_S_l03Shift : Spec (List Int × Nat × Nat × Nat) where
  args := fun x => [.sl 1 (i64s x.1), .val (.int .i64 ((x.2.1 : Nat) : Int)), .val (.int .i64 ((x.2.2.1 : Nat) : Int)), .val (.int .i64 ((x.2.2.2 : Nat) : Int))]
  pre := fun x => x.1.length ≤ 60 ∧ x.2.1 + x.2.2.1 ≤ x.1.length ∧ x.2.2.2 ≤ x.1.length - x.2.2.1
  new := fun x => [⟨2, 1, false, i64s (carried x.1 x.2.1 x.2.2.1 x.2.2.2)⟩]
  res := fun x => .own 0

set_option maxRecDepth 20000 in
set_option maxHeartbeats 8000000 in
theorem ok_S_l03Shift : FnOk Pr 51 s_S_l03Shift := by
 refine fn_ok 4 0 T0_ok Go.Proofs.Tryz.func51 rfl (enters_of Go.Proofs.Tryz.func51 rfl rfl) (fun _ => rfl) (fun _ => rfl) (fun _ => rfl) ?_
 rintro ⟨xs, f, c, t⟩ ⟨hl, hfc, htc⟩ C hP hN hm hG
 change awp C _ _ ⟨[(0, .sl 1 (i64s xs)), (1, .val (.int .i64 ((f : Nat) : Int))), (2, .val (.int .i64 ((c : Nat) : Int))), (3, .val (.int .i64 ((t : Nat) : Int)))], [], 0⟩
 simp only at hl hfc htc
 have hf1 : (xs.take f).length = f := by rw [List.length_take]; omega
 have hf2 : (xs.drop (f + c)).length = xs.length - (f + c) := List.length_drop
 have hd1 : (xs.drop (f + c)).take (xs.length - (f + c)) = xs.drop (f + c) := List.take_of_length_le (by rw [hf2]; exact Nat.le_refl _)
 have hd2 : f + c - f = c := by omega
 have hd3 : (i64s ((xs.take f ++ xs.drop (f + c)).drop t)).take (f + (xs.length - (f + c)) - t) = i64s ((xs.take f ++ xs.drop (f + c)).drop t) := List.take_of_length_le (by simp only [List.length_map, List.length_drop, List.length_append, List.length_take]; omega)
 refine awp_seq ?_
 refine r1 T0_ok hP hm hN ?_
 refine g1 ?_
 refine awp_seq ?_
 refine awp_any hP Pr_mix _ rfl 12 rfl ?_
 refine anyS_float T0_ok hP hm hN (by rfl) 1 rfl rfl rfl (by rfl) (by rfl) (by rfl) ?_
 refine g1 ?_
 refine anyS_float T0_ok hP hm hN (by rfl) 2 rfl rfl rfl (by rfl) (by rfl) (by rfl) ?_
 refine g1 ?_
 refine anyS_float T0_ok hP hm hN (by rfl) 5 rfl rfl rfl (by rfl) (by rfl) (by rfl) ?_
 refine g1 ?_
 refine anyS_float T0_ok hP hm hN (by rfl) 6 rfl rfl rfl (by rfl) (by rfl) (by rfl) ?_
 refine g1 ?_
 refine anyS_float T0_ok hP hm hN (by rfl) 7 rfl rfl rfl (by rfl) (by rfl) (by rfl) ?_
 refine g1 ?_
 refine anyS_floatV T0_ok hP hm hN (by rfl) 8 rfl rfl (by rfl) (by rfl) (by first | trivial | rfl | exact ⟨rfl, rfl⟩ | exact ⟨rfl, rfl, fun _ => rfl, Nat.le_of_ble_eq_true rfl, .inl rfl⟩ | exact ⟨rfl, rfl, fun h => (nomatch h), Nat.le_of_ble_eq_true rfl, .inl rfl⟩ | exact ⟨rfl, rfl, fun _ => rfl, Nat.le_of_ble_eq_true rfl, .inr rfl⟩ | exact ⟨rfl, rfl, fun h => (nomatch h), Nat.le_of_ble_eq_true rfl, .inr rfl⟩ | omega | exact ⟨rfl, by (repeat (first | exact fm_nil | refine fm_cons ⟨rfl, rfl⟩ ?_)), Nat.le_of_ble_eq_true rfl, Nat.le_of_ble_eq_true rfl⟩ | (refine ⟨?_, ?_, ?_, ?_, ?_, ?_, ?_⟩ <;> first | omega | exact Nat.le_of_ble_eq_true rfl) | exact ⟨rfl, by omega, by (try simp only [List.length_map, List.length_set]); omega⟩ | exact ⟨rfl, by omega, by simp only [Int.toNat_natCast]; omega, by omega, Nat.le_of_ble_eq_true rfl, rfl⟩) rfl (by rfl) (by rfl) (by rfl) ?_
 refine g1 ?_ (hst := by simp +decide (disch := omega) only [nrm, lk_nrm, dc_nrm, mk_nrm, mf_nrm, ti_nrm, ls_nrm, mp_nrm, nb_nrm, hset, pick_and, pick_or, ↓reduceIte, Nat.reduceAdd, wI64, wI32, wI16, wI8, wU8, List.length_map, Int.toNat_natCast, xn1, xn2, natadd']; rfl)
 refine anyS_cons T0_ok hP hm hN (by rfl) [0, 3, 9] (by rfl) rfl ?_
 refine ⟨⟨_, rfl, rfl, ?_⟩, ?_⟩
 ·
  refine g1 ?_ (hst := by simp +decide (disch := omega) only [nrm, lk_nrm, dc_nrm, mk_nrm, mf_nrm, ti_nrm, ls_nrm, mp_nrm, nb_nrm, hset, pick_and, pick_or, ↓reduceIte, Nat.reduceAdd, wI64, wI32, wI16, wI8, wU8, List.length_map, Int.toNat_natCast, xn1, xn2, List.all_nil, Bool.not_true]; rfl)
  refine anyS_cons T0_ok hP hm hN (by rfl) [3, 9] (by rfl) rfl ?_
  refine ⟨⟨_, rfl, rfl, ?_⟩, ?_⟩
  ·
   refine g1 ?_ (hpre := by exact ⟨rfl, by omega, by (try simp only [List.length_map, List.length_append, List.length_take, List.length_drop]); omega, by (try simp only [List.length_map, List.length_append, List.length_take, List.length_drop]); omega⟩) (hst := by simp +decide (disch := omega) only [nrm, lk_nrm, dc_nrm, mk_nrm, mf_nrm, ti_nrm, ls_nrm, mp_nrm, nb_nrm, hset, pick_and, pick_or, ↓reduceIte, Nat.reduceAdd, wI64, wI32, wI16, wI8, wU8, List.length_map, Int.toNat_natCast, xn1, xn2, natadd', Int.toNat_natCast, Int.toNat_zero, List.drop_zero, Nat.sub_zero, ← List.map_drop, ← List.map_take, hd1, hd2]; rfl)
   refine anyS_cons T0_ok hP hm hN (by rfl) [4, 9] (by rfl) rfl ?_
   refine ⟨⟨_, rfl, rfl, ?_⟩, ?_⟩
   ·
    refine ga1 ?_ (hpre := by refine ⟨?_, ?_, ?_, ?_, ?_, ?_, ?_⟩ <;> first | trivial | rfl | exact Nat.le_of_ble_eq_true rfl | (intro h; cases h; done) | (simp only [List.length_map, List.length_append, List.length_cons, List.length_nil, List.length_take, List.length_drop]; omega)) (hst := by simp +decide (disch := omega) only [nrm, lk_nrm, dc_nrm, mk_nrm, mf_nrm, ti_nrm, ls_nrm, mp_nrm, nb_nrm, hset, pick_and, pick_or, ↓reduceIte, Nat.reduceAdd, wI64, wI32, wI16, wI8, wU8, List.length_map, Int.toNat_natCast, xn1, xn2, kl_nrm, ← List.map_append, List.nil_append, ← List.map_drop, ← List.map_take, hd3]; rfl)
    refine anyS_cons T0_ok hP hm hN (by rfl) [9] (by rfl) rfl ?_
    refine ⟨⟨_, rfl, rfl, ?_⟩, trivial⟩
    refine g1 ?_ (hpre := by exact ⟨rfl, by omega, by (try simp only [List.length_map, List.length_append, List.length_take, List.length_drop]); omega, by (try simp only [List.length_map, List.length_append, List.length_take, List.length_drop]); omega⟩) (hst := by simp +decide (disch := omega) only [nrm, lk_nrm, dc_nrm, mk_nrm, mf_nrm, ti_nrm, ls_nrm, mp_nrm, nb_nrm, hset, pick_and, pick_or, ↓reduceIte, Nat.reduceAdd, wI64, wI32, wI16, wI8, wU8, List.length_map, Int.toNat_natCast, xn1, xn2, natadd', Int.toNat_natCast, Int.toNat_zero, List.drop_zero, Nat.sub_zero, ← List.map_drop, ← List.map_take, hd1, hd2]; rfl)
    refine anyS_cons T0_ok hP hm hN (by rfl) [10] (by rfl) rfl ?_
    refine ⟨⟨_, rfl, rfl, ?_⟩, trivial⟩
    refine ga1 ?_ (hpre := by refine ⟨?_, ?_, ?_, ?_, ?_, ?_, ?_⟩ <;> first | trivial | rfl | exact Nat.le_of_ble_eq_true rfl | (intro h; cases h; done) | (simp only [List.length_map, List.length_append, List.length_cons, List.length_nil, List.length_take, List.length_drop]; omega)) (hst := by simp +decide (disch := omega) only [nrm, lk_nrm, dc_nrm, mk_nrm, mf_nrm, ti_nrm, ls_nrm, mp_nrm, nb_nrm, hset, pick_and, pick_or, ↓reduceIte, Nat.reduceAdd, wI64, wI32, wI16, wI8, wU8, List.length_map, Int.toNat_natCast, xn1, xn2, kl_nrm, ← List.map_append, List.nil_append, ← List.map_drop, ← List.map_take, hd3]; rfl)
    refine anyS_cons T0_ok hP hm hN (by rfl) [11] (by rfl) rfl ?_
    refine ⟨⟨_, rfl, rfl, ?_⟩, trivial⟩
    refine g1 ?_
    refine anyS_done (by rfl) ?_
    refine awp_seq ?_
    refine r1 T0_ok hP hm hN ?_
    refine g1 ?_ (hst := by simp +decide (disch := omega) only [nrm, lk_nrm, dc_nrm, mk_nrm, mf_nrm, ti_nrm, ls_nrm, mp_nrm, nb_nrm, hset, pick_and, pick_or, ↓reduceIte, Nat.reduceAdd, wI64, wI32, wI16, wI8, wU8, List.length_map, Int.toNat_natCast, xn1, xn2, List.all_nil, Bool.not_true]; rfl)
    iterate 2 refine g1 ?_
    refine g1 ?_ (hpre := by exact ⟨rfl, by omega, by (try simp only [List.length_map, List.length_append, List.length_take, List.length_drop]); omega, by (try simp only [List.length_map, List.length_append, List.length_take, List.length_drop]); omega⟩) (hst := by simp +decide (disch := omega) only [nrm, lk_nrm, dc_nrm, mk_nrm, mf_nrm, ti_nrm, ls_nrm, mp_nrm, nb_nrm, hset, pick_and, pick_or, ↓reduceIte, Nat.reduceAdd, wI64, wI32, wI16, wI8, wU8, List.length_map, Int.toNat_natCast, xn1, xn2, natadd', Int.toNat_natCast, Int.toNat_zero, List.drop_zero, Nat.sub_zero, ← List.map_drop, ← List.map_take, hd1, hd2, List.length_append, hf1, hf2]; rfl)
    refine ga1 ?_ (hpre := by refine ⟨?_, ?_, ?_, ?_, ?_, ?_, ?_⟩ <;> first | trivial | rfl | exact Nat.le_of_ble_eq_true rfl | (intro h; cases h; done) | (simp only [List.length_map, List.length_append, List.length_cons, List.length_nil, List.length_take, List.length_drop]; omega)) (hst := by simp +decide (disch := omega) only [nrm, lk_nrm, dc_nrm, mk_nrm, mf_nrm, ti_nrm, ls_nrm, mp_nrm, nb_nrm, hset, pick_and, pick_or, ↓reduceIte, Nat.reduceAdd, wI64, wI32, wI16, wI8, wU8, List.length_map, Int.toNat_natCast, xn1, xn2, kl_nrm, ← List.map_append, List.nil_append, ← List.map_drop, ← List.map_take, hd3]; rfl)
    refine g1 ?_
    refine awp_seq ?_
    refine r1 T0_ok hP hm hN ?_
    iterate 5 refine g1 ?_
    refine g1 ?_ (hst := by simp +decide (disch := omega) only [nrm, lk_nrm, dc_nrm, mk_nrm, mf_nrm, ti_nrm, ls_nrm, mp_nrm, nb_nrm, hset, pick_and, pick_or, ↓reduceIte, Nat.reduceAdd, wI64, wI32, wI16, wI8, wU8, List.length_map, Int.toNat_natCast, xn1, xn2, natadd']; rfl)
    refine g1 ?_ (hpre := by exact ⟨rfl, by omega, by (try simp only [List.length_map, List.length_append, List.length_take, List.length_drop]); omega, by (try simp only [List.length_map, List.length_append, List.length_take, List.length_drop]); omega⟩) (hst := by simp +decide (disch := omega) only [nrm, lk_nrm, dc_nrm, mk_nrm, mf_nrm, ti_nrm, ls_nrm, mp_nrm, nb_nrm, hset, pick_and, pick_or, ↓reduceIte, Nat.reduceAdd, wI64, wI32, wI16, wI8, wU8, List.length_map, Int.toNat_natCast, xn1, xn2, natadd', Int.toNat_natCast, Int.toNat_zero, List.drop_zero, Nat.sub_zero, ← List.map_drop, ← List.map_take, hd1, hd2]; rfl)
    refine ga1 ?_ (hpre := by refine ⟨?_, ?_, ?_, ?_, ?_, ?_, ?_⟩ <;> first | trivial | rfl | exact Nat.le_of_ble_eq_true rfl | (intro h; cases h; done) | (simp only [List.length_map, List.length_append, List.length_cons, List.length_nil, List.length_take, List.length_drop]; omega)) (hst := by simp +decide (disch := omega) only [nrm, lk_nrm, dc_nrm, mk_nrm, mf_nrm, ti_nrm, ls_nrm, mp_nrm, nb_nrm, hset, pick_and, pick_or, ↓reduceIte, Nat.reduceAdd, wI64, wI32, wI16, wI8, wU8, List.length_map, Int.toNat_natCast, xn1, xn2, kl_nrm, ← List.map_append, List.nil_append, ← List.map_drop, ← List.map_take, hd3]; rfl)
    refine g1 ?_
    refine awp_seq ?_
    refine r1 T0_ok hP hm hN ?_
    iterate 3 refine g1 ?_
    refine g1 ?_ (hpre := by exact ⟨rfl, by omega, by (try simp only [List.length_map, List.length_append, List.length_take, List.length_drop]); omega, by (try simp only [List.length_map, List.length_append, List.length_take, List.length_drop]); omega⟩) (hst := by simp +decide (disch := omega) only [nrm, lk_nrm, dc_nrm, mk_nrm, mf_nrm, ti_nrm, ls_nrm, mp_nrm, nb_nrm, hset, pick_and, pick_or, ↓reduceIte, Nat.reduceAdd, wI64, wI32, wI16, wI8, wU8, List.length_map, Int.toNat_natCast, xn1, xn2, natadd', Int.toNat_natCast, Int.toNat_zero, List.drop_zero, Nat.sub_zero, ← List.map_drop, ← List.map_take, hd1, hd2, List.length_append, hf1, hf2]; rfl)
    refine ga1 ?_ (hpre := by refine ⟨?_, ?_, ?_, ?_, ?_, ?_, ?_⟩ <;> first | trivial | rfl | exact Nat.le_of_ble_eq_true rfl | (intro h; cases h; done) | (simp only [List.length_map, List.length_append, List.length_cons, List.length_nil, List.length_take, List.length_drop]; omega)) (hst := by simp +decide (disch := omega) only [nrm, lk_nrm, dc_nrm, mk_nrm, mf_nrm, ti_nrm, ls_nrm, mp_nrm, nb_nrm, hset, pick_and, pick_or, ↓reduceIte, Nat.reduceAdd, wI64, wI32, wI16, wI8, wU8, List.length_map, Int.toNat_natCast, xn1, xn2, kl_nrm, ← List.map_append, List.nil_append, ← List.map_drop, ← List.map_take, hd3]; rfl)
    refine g1 ?_
    refine awp_ret ?_
    refine fin_mk [1] rfl rfl ?_ (objs_cons rfl rfl rfl rfl rfl (.inl rfl) objs_nil) (by decide)
    rfl
   refine ⟨⟨_, rfl, rfl, ?_⟩, trivial⟩
   refine g1 ?_ (hpre := by exact ⟨rfl, by omega, by (try simp only [List.length_map, List.length_append, List.length_take, List.length_drop]); omega, by (try simp only [List.length_map, List.length_append, List.length_take, List.length_drop]); omega⟩) (hst := by simp +decide (disch := omega) only [nrm, lk_nrm, dc_nrm, mk_nrm, mf_nrm, ti_nrm, ls_nrm, mp_nrm, nb_nrm, hset, pick_and, pick_or, ↓reduceIte, Nat.reduceAdd, wI64, wI32, wI16, wI8, wU8, List.length_map, Int.toNat_natCast, xn1, xn2, natadd', Int.toNat_natCast, Int.toNat_zero, List.drop_zero, Nat.sub_zero, ← List.map_drop, ← List.map_take, hd1, hd2]; rfl)
   refine anyS_cons T0_ok hP hm hN (by rfl) [4] (by rfl) rfl ?_
   refine ⟨⟨_, rfl, rfl, ?_⟩, trivial⟩
   refine ga1 ?_ (hpre := by refine ⟨?_, ?_, ?_, ?_, ?_, ?_, ?_⟩ <;> first | trivial | rfl | exact Nat.le_of_ble_eq_true rfl | (intro h; cases h; done) | (simp only [List.length_map, List.length_append, List.length_cons, List.length_nil, List.length_take, List.length_drop]; omega)) (hst := by simp +decide (disch := omega) only [nrm, lk_nrm, dc_nrm, mk_nrm, mf_nrm, ti_nrm, ls_nrm, mp_nrm, nb_nrm, hset, pick_and, pick_or, ↓reduceIte, Nat.reduceAdd, wI64, wI32, wI16, wI8, wU8, List.length_map, Int.toNat_natCast, xn1, xn2, kl_nrm, ← List.map_append, List.nil_append, ← List.map_drop, ← List.map_take, hd3]; rfl)
   refine anyS_cons T0_ok hP hm hN (by rfl) [10] (by rfl) rfl ?_
   refine ⟨⟨_, rfl, rfl, ?_⟩, trivial⟩
   refine ga1 ?_ (hpre := by refine ⟨?_, ?_, ?_, ?_, ?_, ?_, ?_⟩ <;> first | trivial | rfl | exact Nat.le_of_ble_eq_true rfl | (intro h; cases h; done) | (simp only [List.length_map, List.length_append, List.length_cons, List.length_nil, List.length_take, List.length_drop]; omega)) (hst := by simp +decide (disch := omega) only [nrm, lk_nrm, dc_nrm, mk_nrm, mf_nrm, ti_nrm, ls_nrm, mp_nrm, nb_nrm, hset, pick_and, pick_or, ↓reduceIte, Nat.reduceAdd, wI64, wI32, wI16, wI8, wU8, List.length_map, Int.toNat_natCast, xn1, xn2, kl_nrm, ← List.map_append, List.nil_append, ← List.map_drop, ← List.map_take, hd3]; rfl)
   refine anyS_cons T0_ok hP hm hN (by rfl) [11] (by rfl) rfl ?_
   refine ⟨⟨_, rfl, rfl, ?_⟩, trivial⟩
   refine g1 ?_
   refine anyS_done (by rfl) ?_
   refine awp_seq ?_
   refine r1 T0_ok hP hm hN ?_
   refine g1 ?_ (hst := by simp +decide (disch := omega) only [nrm, lk_nrm, dc_nrm, mk_nrm, mf_nrm, ti_nrm, ls_nrm, mp_nrm, nb_nrm, hset, pick_and, pick_or, ↓reduceIte, Nat.reduceAdd, wI64, wI32, wI16, wI8, wU8, List.length_map, Int.toNat_natCast, xn1, xn2, List.all_nil, Bool.not_true]; rfl)
   iterate 2 refine g1 ?_
   refine g1 ?_ (hpre := by exact ⟨rfl, by omega, by (try simp only [List.length_map, List.length_append, List.length_take, List.length_drop]); omega, by (try simp only [List.length_map, List.length_append, List.length_take, List.length_drop]); omega⟩) (hst := by simp +decide (disch := omega) only [nrm, lk_nrm, dc_nrm, mk_nrm, mf_nrm, ti_nrm, ls_nrm, mp_nrm, nb_nrm, hset, pick_and, pick_or, ↓reduceIte, Nat.reduceAdd, wI64, wI32, wI16, wI8, wU8, List.length_map, Int.toNat_natCast, xn1, xn2, natadd', Int.toNat_natCast, Int.toNat_zero, List.drop_zero, Nat.sub_zero, ← List.map_drop, ← List.map_take, hd1, hd2, List.length_append, hf1, hf2]; rfl)
   refine ga1 ?_ (hpre := by refine ⟨?_, ?_, ?_, ?_, ?_, ?_, ?_⟩ <;> first | trivial | rfl | exact Nat.le_of_ble_eq_true rfl | (intro h; cases h; done) | (simp only [List.length_map, List.length_append, List.length_cons, List.length_nil, List.length_take, List.length_drop]; omega)) (hst := by simp +decide (disch := omega) only [nrm, lk_nrm, dc_nrm, mk_nrm, mf_nrm, ti_nrm, ls_nrm, mp_nrm, nb_nrm, hset, pick_and, pick_or, ↓reduceIte, Nat.reduceAdd, wI64, wI32, wI16, wI8, wU8, List.length_map, Int.toNat_natCast, xn1, xn2, kl_nrm, ← List.map_append, List.nil_append, ← List.map_drop, ← List.map_take, hd3]; rfl)
   refine g1 ?_
   refine awp_seq ?_
   refine r1 T0_ok hP hm hN ?_
   iterate 5 refine g1 ?_
   refine g1 ?_ (hst := by simp +decide (disch := omega) only [nrm, lk_nrm, dc_nrm, mk_nrm, mf_nrm, ti_nrm, ls_nrm, mp_nrm, nb_nrm, hset, pick_and, pick_or, ↓reduceIte, Nat.reduceAdd, wI64, wI32, wI16, wI8, wU8, List.length_map, Int.toNat_natCast, xn1, xn2, natadd']; rfl)
   refine g1 ?_ (hpre := by exact ⟨rfl, by omega, by (try simp only [List.length_map, List.length_append, List.length_take, List.length_drop]); omega, by (try simp only [List.length_map, List.length_append, List.length_take, List.length_drop]); omega⟩) (hst := by simp +decide (disch := omega) only [nrm, lk_nrm, dc_nrm, mk_nrm, mf_nrm, ti_nrm, ls_nrm, mp_nrm, nb_nrm, hset, pick_and, pick_or, ↓reduceIte, Nat.reduceAdd, wI64, wI32, wI16, wI8, wU8, List.length_map, Int.toNat_natCast, xn1, xn2, natadd', Int.toNat_natCast, Int.toNat_zero, List.drop_zero, Nat.sub_zero, ← List.map_drop, ← List.map_take, hd1, hd2]; rfl)
   refine ga1 ?_ (hpre := by refine ⟨?_, ?_, ?_, ?_, ?_, ?_, ?_⟩ <;> first | trivial | rfl | exact Nat.le_of_ble_eq_true rfl | (intro h; cases h; done) | (simp only [List.length_map, List.length_append, List.length_cons, List.length_nil, List.length_take, List.length_drop]; omega)) (hst := by simp +decide (disch := omega) only [nrm, lk_nrm, dc_nrm, mk_nrm, mf_nrm, ti_nrm, ls_nrm, mp_nrm, nb_nrm, hset, pick_and, pick_or, ↓reduceIte, Nat.reduceAdd, wI64, wI32, wI16, wI8, wU8, List.length_map, Int.toNat_natCast, xn1, xn2, kl_nrm, ← List.map_append, List.nil_append, ← List.map_drop, ← List.map_take, hd3]; rfl)
   refine g1 ?_
   refine awp_seq ?_
   refine r1 T0_ok hP hm hN ?_
   iterate 3 refine g1 ?_
   refine g1 ?_ (hpre := by exact ⟨rfl, by omega, by (try simp only [List.length_map, List.length_append, List.length_take, List.length_drop]); omega, by (try simp only [List.length_map, List.length_append, List.length_take, List.length_drop]); omega⟩) (hst := by simp +decide (disch := omega) only [nrm, lk_nrm, dc_nrm, mk_nrm, mf_nrm, ti_nrm, ls_nrm, mp_nrm, nb_nrm, hset, pick_and, pick_or, ↓reduceIte, Nat.reduceAdd, wI64, wI32, wI16, wI8, wU8, List.length_map, Int.toNat_natCast, xn1, xn2, natadd', Int.toNat_natCast, Int.toNat_zero, List.drop_zero, Nat.sub_zero, ← List.map_drop, ← List.map_take, hd1, hd2, List.length_append, hf1, hf2]; rfl)
   refine ga1 ?_ (hpre := by refine ⟨?_, ?_, ?_, ?_, ?_, ?_, ?_⟩ <;> first | trivial | rfl | exact Nat.le_of_ble_eq_true rfl | (intro h; cases h; done) | (simp only [List.length_map, List.length_append, List.length_cons, List.length_nil, List.length_take, List.length_drop]; omega)) (hst := by simp +decide (disch := omega) only [nrm, lk_nrm, dc_nrm, mk_nrm, mf_nrm, ti_nrm, ls_nrm, mp_nrm, nb_nrm, hset, pick_and, pick_or, ↓reduceIte, Nat.reduceAdd, wI64, wI32, wI16, wI8, wU8, List.length_map, Int.toNat_natCast, xn1, xn2, kl_nrm, ← List.map_append, List.nil_append, ← List.map_drop, ← List.map_take, hd3]; rfl)
   refine g1 ?_
   refine awp_ret ?_
   refine fin_mk [1] rfl rfl ?_ (objs_cons rfl rfl rfl rfl rfl (.inl rfl) objs_nil) (by decide)
   rfl
  refine ⟨⟨_, rfl, rfl, ?_⟩, trivial⟩
  refine g1 ?_ (hpre := by exact ⟨rfl, by omega, by (try simp only [List.length_map, List.length_append, List.length_take, List.length_drop]); omega, by (try simp only [List.length_map, List.length_append, List.length_take, List.length_drop]); omega⟩) (hst := by simp +decide (disch := omega) only [nrm, lk_nrm, dc_nrm, mk_nrm, mf_nrm, ti_nrm, ls_nrm, mp_nrm, nb_nrm, hset, pick_and, pick_or, ↓reduceIte, Nat.reduceAdd, wI64, wI32, wI16, wI8, wU8, List.length_map, Int.toNat_natCast, xn1, xn2, natadd', Int.toNat_natCast, Int.toNat_zero, List.drop_zero, Nat.sub_zero, ← List.map_drop, ← List.map_take, hd1, hd2]; rfl)
  refine anyS_cons T0_ok hP hm hN (by rfl) [3] (by rfl) rfl ?_
  refine ⟨⟨_, rfl, rfl, ?_⟩, trivial⟩
  refine g1 ?_ (hpre := by exact ⟨rfl, by omega, by (try simp only [List.length_map, List.length_append, List.length_take, List.length_drop]); omega, by (try simp only [List.length_map, List.length_append, List.length_take, List.length_drop]); omega⟩) (hst := by simp +decide (disch := omega) only [nrm, lk_nrm, dc_nrm, mk_nrm, mf_nrm, ti_nrm, ls_nrm, mp_nrm, nb_nrm, hset, pick_and, pick_or, ↓reduceIte, Nat.reduceAdd, wI64, wI32, wI16, wI8, wU8, List.length_map, Int.toNat_natCast, xn1, xn2, natadd', Int.toNat_natCast, Int.toNat_zero, List.drop_zero, Nat.sub_zero, ← List.map_drop, ← List.map_take, hd1, hd2]; rfl)
  refine anyS_cons T0_ok hP hm hN (by rfl) [4] (by rfl) rfl ?_
  refine ⟨⟨_, rfl, rfl, ?_⟩, trivial⟩
  refine ga1 ?_ (hpre := by refine ⟨?_, ?_, ?_, ?_, ?_, ?_, ?_⟩ <;> first | trivial | rfl | exact Nat.le_of_ble_eq_true rfl | (intro h; cases h; done) | (simp only [List.length_map, List.length_append, List.length_cons, List.length_nil, List.length_take, List.length_drop]; omega)) (hst := by simp +decide (disch := omega) only [nrm, lk_nrm, dc_nrm, mk_nrm, mf_nrm, ti_nrm, ls_nrm, mp_nrm, nb_nrm, hset, pick_and, pick_or, ↓reduceIte, Nat.reduceAdd, wI64, wI32, wI16, wI8, wU8, List.length_map, Int.toNat_natCast, xn1, xn2, kl_nrm, ← List.map_append, List.nil_append, ← List.map_drop, ← List.map_take, hd3]; rfl)
  refine anyS_cons T0_ok hP hm hN (by rfl) [10] (by rfl) rfl ?_
  refine ⟨⟨_, rfl, rfl, ?_⟩, trivial⟩
  refine ga1 ?_ (hpre := by refine ⟨?_, ?_, ?_, ?_, ?_, ?_, ?_⟩ <;> first | trivial | rfl | exact Nat.le_of_ble_eq_true rfl | (intro h; cases h; done) | (simp only [List.length_map, List.length_append, List.length_cons, List.length_nil, List.length_take, List.length_drop]; omega)) (hst := by simp +decide (disch := omega) only [nrm, lk_nrm, dc_nrm, mk_nrm, mf_nrm, ti_nrm, ls_nrm, mp_nrm, nb_nrm, hset, pick_and, pick_or, ↓reduceIte, Nat.reduceAdd, wI64, wI32, wI16, wI8, wU8, List.length_map, Int.toNat_natCast, xn1, xn2, kl_nrm, ← List.map_append, List.nil_append, ← List.map_drop, ← List.map_take, hd3]; rfl)
  refine anyS_cons T0_ok hP hm hN (by rfl) [11] (by rfl) rfl ?_
  refine ⟨⟨_, rfl, rfl, ?_⟩, trivial⟩
  refine g1 ?_
  refine anyS_done (by rfl) ?_
  refine awp_seq ?_
  refine r1 T0_ok hP hm hN ?_
  refine g1 ?_ (hst := by simp +decide (disch := omega) only [nrm, lk_nrm, dc_nrm, mk_nrm, mf_nrm, ti_nrm, ls_nrm, mp_nrm, nb_nrm, hset, pick_and, pick_or, ↓reduceIte, Nat.reduceAdd, wI64, wI32, wI16, wI8, wU8, List.length_map, Int.toNat_natCast, xn1, xn2, List.all_nil, Bool.not_true]; rfl)
  iterate 2 refine g1 ?_
  refine g1 ?_ (hpre := by exact ⟨rfl, by omega, by (try simp only [List.length_map, List.length_append, List.length_take, List.length_drop]); omega, by (try simp only [List.length_map, List.length_append, List.length_take, List.length_drop]); omega⟩) (hst := by simp +decide (disch := omega) only [nrm, lk_nrm, dc_nrm, mk_nrm, mf_nrm, ti_nrm, ls_nrm, mp_nrm, nb_nrm, hset, pick_and, pick_or, ↓reduceIte, Nat.reduceAdd, wI64, wI32, wI16, wI8, wU8, List.length_map, Int.toNat_natCast, xn1, xn2, natadd', Int.toNat_natCast, Int.toNat_zero, List.drop_zero, Nat.sub_zero, ← List.map_drop, ← List.map_take, hd1, hd2, List.length_append, hf1, hf2]; rfl)
  refine ga1 ?_ (hpre := by refine ⟨?_, ?_, ?_, ?_, ?_, ?_, ?_⟩ <;> first | trivial | rfl | exact Nat.le_of_ble_eq_true rfl | (intro h; cases h; done) | (simp only [List.length_map, List.length_append, List.length_cons, List.length_nil, List.length_take, List.length_drop]; omega)) (hst := by simp +decide (disch := omega) only [nrm, lk_nrm, dc_nrm, mk_nrm, mf_nrm, ti_nrm, ls_nrm, mp_nrm, nb_nrm, hset, pick_and, pick_or, ↓reduceIte, Nat.reduceAdd, wI64, wI32, wI16, wI8, wU8, List.length_map, Int.toNat_natCast, xn1, xn2, kl_nrm, ← List.map_append, List.nil_append, ← List.map_drop, ← List.map_take, hd3]; rfl)
  refine g1 ?_
  refine awp_seq ?_
  refine r1 T0_ok hP hm hN ?_
  iterate 5 refine g1 ?_
  refine g1 ?_ (hst := by simp +decide (disch := omega) only [nrm, lk_nrm, dc_nrm, mk_nrm, mf_nrm, ti_nrm, ls_nrm, mp_nrm, nb_nrm, hset, pick_and, pick_or, ↓reduceIte, Nat.reduceAdd, wI64, wI32, wI16, wI8, wU8, List.length_map, Int.toNat_natCast, xn1, xn2, natadd']; rfl)
  refine g1 ?_ (hpre := by exact ⟨rfl, by omega, by (try simp only [List.length_map, List.length_append, List.length_take, List.length_drop]); omega, by (try simp only [List.length_map, List.length_append, List.length_take, List.length_drop]); omega⟩) (hst := by simp +decide (disch := omega) only [nrm, lk_nrm, dc_nrm, mk_nrm, mf_nrm, ti_nrm, ls_nrm, mp_nrm, nb_nrm, hset, pick_and, pick_or, ↓reduceIte, Nat.reduceAdd, wI64, wI32, wI16, wI8, wU8, List.length_map, Int.toNat_natCast, xn1, xn2, natadd', Int.toNat_natCast, Int.toNat_zero, List.drop_zero, Nat.sub_zero, ← List.map_drop, ← List.map_take, hd1, hd2]; rfl)
  refine ga1 ?_ (hpre := by refine ⟨?_, ?_, ?_, ?_, ?_, ?_, ?_⟩ <;> first | trivial | rfl | exact Nat.le_of_ble_eq_true rfl | (intro h; cases h; done) | (simp only [List.length_map, List.length_append, List.length_cons, List.length_nil, List.length_take, List.length_drop]; omega)) (hst := by simp +decide (disch := omega) only [nrm, lk_nrm, dc_nrm, mk_nrm, mf_nrm, ti_nrm, ls_nrm, mp_nrm, nb_nrm, hset, pick_and, pick_or, ↓reduceIte, Nat.reduceAdd, wI64, wI32, wI16, wI8, wU8, List.length_map, Int.toNat_natCast, xn1, xn2, kl_nrm, ← List.map_append, List.nil_append, ← List.map_drop, ← List.map_take, hd3]; rfl)
  refine g1 ?_
  refine awp_seq ?_
  refine r1 T0_ok hP hm hN ?_
  iterate 3 refine g1 ?_
  refine g1 ?_ (hpre := by exact ⟨rfl, by omega, by (try simp only [List.length_map, List.length_append, List.length_take, List.length_drop]); omega, by (try simp only [List.length_map, List.length_append, List.length_take, List.length_drop]); omega⟩) (hst := by simp +decide (disch := omega) only [nrm, lk_nrm, dc_nrm, mk_nrm, mf_nrm, ti_nrm, ls_nrm, mp_nrm, nb_nrm, hset, pick_and, pick_or, ↓reduceIte, Nat.reduceAdd, wI64, wI32, wI16, wI8, wU8, List.length_map, Int.toNat_natCast, xn1, xn2, natadd', Int.toNat_natCast, Int.toNat_zero, List.drop_zero, Nat.sub_zero, ← List.map_drop, ← List.map_take, hd1, hd2, List.length_append, hf1, hf2]; rfl)
  refine ga1 ?_ (hpre := by refine ⟨?_, ?_, ?_, ?_, ?_, ?_, ?_⟩ <;> first | trivial | rfl | exact Nat.le_of_ble_eq_true rfl | (intro h; cases h; done) | (simp only [List.length_map, List.length_append, List.length_cons, List.length_nil, List.length_take, List.length_drop]; omega)) (hst := by simp +decide (disch := omega) only [nrm, lk_nrm, dc_nrm, mk_nrm, mf_nrm, ti_nrm, ls_nrm, mp_nrm, nb_nrm, hset, pick_and, pick_or, ↓reduceIte, Nat.reduceAdd, wI64, wI32, wI16, wI8, wU8, List.length_map, Int.toNat_natCast, xn1, xn2, kl_nrm, ← List.map_append, List.nil_append, ← List.map_drop, ← List.map_take, hd3]; rfl)
  refine g1 ?_
  refine awp_ret ?_
  refine fin_mk [1] rfl rfl ?_ (objs_cons rfl rfl rfl rfl rfl (.inl rfl) objs_nil) (by decide)
  rfl
 refine ⟨⟨_, rfl, rfl, ?_⟩, ?_⟩
 ·
  refine g1 ?_ (hpre := by exact ⟨rfl, by omega, by (try simp only [List.length_map, List.length_append, List.length_take, List.length_drop]); omega, by (try simp only [List.length_map, List.length_append, List.length_take, List.length_drop]); omega⟩) (hst := by simp +decide (disch := omega) only [nrm, lk_nrm, dc_nrm, mk_nrm, mf_nrm, ti_nrm, ls_nrm, mp_nrm, nb_nrm, hset, pick_and, pick_or, ↓reduceIte, Nat.reduceAdd, wI64, wI32, wI16, wI8, wU8, List.length_map, Int.toNat_natCast, xn1, xn2, natadd', Int.toNat_natCast, Int.toNat_zero, List.drop_zero, Nat.sub_zero, ← List.map_drop, ← List.map_take, hd1, hd2]; rfl)
  refine anyS_cons T0_ok hP hm hN (by rfl) [0, 9] (by rfl) rfl ?_
  refine ⟨⟨_, rfl, rfl, ?_⟩, ?_⟩
  ·
   refine g1 ?_ (hst := by simp +decide (disch := omega) only [nrm, lk_nrm, dc_nrm, mk_nrm, mf_nrm, ti_nrm, ls_nrm, mp_nrm, nb_nrm, hset, pick_and, pick_or, ↓reduceIte, Nat.reduceAdd, wI64, wI32, wI16, wI8, wU8, List.length_map, Int.toNat_natCast, xn1, xn2, List.all_nil, Bool.not_true]; rfl)
   refine anyS_cons T0_ok hP hm hN (by rfl) [4, 9] (by rfl) rfl ?_
   refine ⟨⟨_, rfl, rfl, ?_⟩, ?_⟩
   ·
    refine ga1 ?_ (hpre := by refine ⟨?_, ?_, ?_, ?_, ?_, ?_, ?_⟩ <;> first | trivial | rfl | exact Nat.le_of_ble_eq_true rfl | (intro h; cases h; done) | (simp only [List.length_map, List.length_append, List.length_cons, List.length_nil, List.length_take, List.length_drop]; omega)) (hst := by simp +decide (disch := omega) only [nrm, lk_nrm, dc_nrm, mk_nrm, mf_nrm, ti_nrm, ls_nrm, mp_nrm, nb_nrm, hset, pick_and, pick_or, ↓reduceIte, Nat.reduceAdd, wI64, wI32, wI16, wI8, wU8, List.length_map, Int.toNat_natCast, xn1, xn2, kl_nrm, ← List.map_append, List.nil_append, ← List.map_drop, ← List.map_take, hd3]; rfl)
    refine anyS_cons T0_ok hP hm hN (by rfl) [9] (by rfl) rfl ?_
    refine ⟨⟨_, rfl, rfl, ?_⟩, trivial⟩
    refine g1 ?_ (hpre := by exact ⟨rfl, by omega, by (try simp only [List.length_map, List.length_append, List.length_take, List.length_drop]); omega, by (try simp only [List.length_map, List.length_append, List.length_take, List.length_drop]); omega⟩) (hst := by simp +decide (disch := omega) only [nrm, lk_nrm, dc_nrm, mk_nrm, mf_nrm, ti_nrm, ls_nrm, mp_nrm, nb_nrm, hset, pick_and, pick_or, ↓reduceIte, Nat.reduceAdd, wI64, wI32, wI16, wI8, wU8, List.length_map, Int.toNat_natCast, xn1, xn2, natadd', Int.toNat_natCast, Int.toNat_zero, List.drop_zero, Nat.sub_zero, ← List.map_drop, ← List.map_take, hd1, hd2]; rfl)
    refine anyS_cons T0_ok hP hm hN (by rfl) [10] (by rfl) rfl ?_
    refine ⟨⟨_, rfl, rfl, ?_⟩, trivial⟩
    refine ga1 ?_ (hpre := by refine ⟨?_, ?_, ?_, ?_, ?_, ?_, ?_⟩ <;> first | trivial | rfl | exact Nat.le_of_ble_eq_true rfl | (intro h; cases h; done) | (simp only [List.length_map, List.length_append, List.length_cons, List.length_nil, List.length_take, List.length_drop]; omega)) (hst := by simp +decide (disch := omega) only [nrm, lk_nrm, dc_nrm, mk_nrm, mf_nrm, ti_nrm, ls_nrm, mp_nrm, nb_nrm, hset, pick_and, pick_or, ↓reduceIte, Nat.reduceAdd, wI64, wI32, wI16, wI8, wU8, List.length_map, Int.toNat_natCast, xn1, xn2, kl_nrm, ← List.map_append, List.nil_append, ← List.map_drop, ← List.map_take, hd3]; rfl)
    refine anyS_cons T0_ok hP hm hN (by rfl) [11] (by rfl) rfl ?_
    refine ⟨⟨_, rfl, rfl, ?_⟩, trivial⟩
    refine g1 ?_
    refine anyS_done (by rfl) ?_
    refine awp_seq ?_
    refine r1 T0_ok hP hm hN ?_
    refine g1 ?_ (hst := by simp +decide (disch := omega) only [nrm, lk_nrm, dc_nrm, mk_nrm, mf_nrm, ti_nrm, ls_nrm, mp_nrm, nb_nrm, hset, pick_and, pick_or, ↓reduceIte, Nat.reduceAdd, wI64, wI32, wI16, wI8, wU8, List.length_map, Int.toNat_natCast, xn1, xn2, List.all_nil, Bool.not_true]; rfl)
    iterate 2 refine g1 ?_
    refine g1 ?_ (hpre := by exact ⟨rfl, by omega, by (try simp only [List.length_map, List.length_append, List.length_take, List.length_drop]); omega, by (try simp only [List.length_map, List.length_append, List.length_take, List.length_drop]); omega⟩) (hst := by simp +decide (disch := omega) only [nrm, lk_nrm, dc_nrm, mk_nrm, mf_nrm, ti_nrm, ls_nrm, mp_nrm, nb_nrm, hset, pick_and, pick_or, ↓reduceIte, Nat.reduceAdd, wI64, wI32, wI16, wI8, wU8, List.length_map, Int.toNat_natCast, xn1, xn2, natadd', Int.toNat_natCast, Int.toNat_zero, List.drop_zero, Nat.sub_zero, ← List.map_drop, ← List.map_take, hd1, hd2, List.length_append, hf1, hf2]; rfl)
    refine ga1 ?_ (hpre := by refine ⟨?_, ?_, ?_, ?_, ?_, ?_, ?_⟩ <;> first | trivial | rfl | exact Nat.le_of_ble_eq_true rfl | (intro h; cases h; done) | (simp only [List.length_map, List.length_append, List.length_cons, List.length_nil, List.length_take, List.length_drop]; omega)) (hst := by simp +decide (disch := omega) only [nrm, lk_nrm, dc_nrm, mk_nrm, mf_nrm, ti_nrm, ls_nrm, mp_nrm, nb_nrm, hset, pick_and, pick_or, ↓reduceIte, Nat.reduceAdd, wI64, wI32, wI16, wI8, wU8, List.length_map, Int.toNat_natCast, xn1, xn2, kl_nrm, ← List.map_append, List.nil_append, ← List.map_drop, ← List.map_take, hd3]; rfl)
    refine g1 ?_
    refine awp_seq ?_
    refine r1 T0_ok hP hm hN ?_
    iterate 5 refine g1 ?_
    refine g1 ?_ (hst := by simp +decide (disch := omega) only [nrm, lk_nrm, dc_nrm, mk_nrm, mf_nrm, ti_nrm, ls_nrm, mp_nrm, nb_nrm, hset, pick_and, pick_or, ↓reduceIte, Nat.reduceAdd, wI64, wI32, wI16, wI8, wU8, List.length_map, Int.toNat_natCast, xn1, xn2, natadd']; rfl)
    refine g1 ?_ (hpre := by exact ⟨rfl, by omega, by (try simp only [List.length_map, List.length_append, List.length_take, List.length_drop]); omega, by (try simp only [List.length_map, List.length_append, List.length_take, List.length_drop]); omega⟩) (hst := by simp +decide (disch := omega) only [nrm, lk_nrm, dc_nrm, mk_nrm, mf_nrm, ti_nrm, ls_nrm, mp_nrm, nb_nrm, hset, pick_and, pick_or, ↓reduceIte, Nat.reduceAdd, wI64, wI32, wI16, wI8, wU8, List.length_map, Int.toNat_natCast, xn1, xn2, natadd', Int.toNat_natCast, Int.toNat_zero, List.drop_zero, Nat.sub_zero, ← List.map_drop, ← List.map_take, hd1, hd2]; rfl)
    refine ga1 ?_ (hpre := by refine ⟨?_, ?_, ?_, ?_, ?_, ?_, ?_⟩ <;> first | trivial | rfl | exact Nat.le_of_ble_eq_true rfl | (intro h; cases h; done) | (simp only [List.length_map, List.length_append, List.length_cons, List.length_nil, List.length_take, List.length_drop]; omega)) (hst := by simp +decide (disch := omega) only [nrm, lk_nrm, dc_nrm, mk_nrm, mf_nrm, ti_nrm, ls_nrm, mp_nrm, nb_nrm, hset, pick_and, pick_or, ↓reduceIte, Nat.reduceAdd, wI64, wI32, wI16, wI8, wU8, List.length_map, Int.toNat_natCast, xn1, xn2, kl_nrm, ← List.map_append, List.nil_append, ← List.map_drop, ← List.map_take, hd3]; rfl)
    refine g1 ?_
    refine awp_seq ?_
    refine r1 T0_ok hP hm hN ?_
    iterate 3 refine g1 ?_
    refine g1 ?_ (hpre := by exact ⟨rfl, by omega, by (try simp only [List.length_map, List.length_append, List.length_take, List.length_drop]); omega, by (try simp only [List.length_map, List.length_append, List.length_take, List.length_drop]); omega⟩) (hst := by simp +decide (disch := omega) only [nrm, lk_nrm, dc_nrm, mk_nrm, mf_nrm, ti_nrm, ls_nrm, mp_nrm, nb_nrm, hset, pick_and, pick_or, ↓reduceIte, Nat.reduceAdd, wI64, wI32, wI16, wI8, wU8, List.length_map, Int.toNat_natCast, xn1, xn2, natadd', Int.toNat_natCast, Int.toNat_zero, List.drop_zero, Nat.sub_zero, ← List.map_drop, ← List.map_take, hd1, hd2, List.length_append, hf1, hf2]; rfl)
    refine ga1 ?_ (hpre := by refine ⟨?_, ?_, ?_, ?_, ?_, ?_, ?_⟩ <;> first | trivial | rfl | exact Nat.le_of_ble_eq_true rfl | (intro h; cases h; done) | (simp only [List.length_map, List.length_append, List.length_cons, List.length_nil, List.length_take, List.length_drop]; omega)) (hst := by simp +decide (disch := omega) only [nrm, lk_nrm, dc_nrm, mk_nrm, mf_nrm, ti_nrm, ls_nrm, mp_nrm, nb_nrm, hset, pick_and, pick_or, ↓reduceIte, Nat.reduceAdd, wI64, wI32, wI16, wI8, wU8, List.length_map, Int.toNat_natCast, xn1, xn2, kl_nrm, ← List.map_append, List.nil_append, ← List.map_drop, ← List.map_take, hd3]; rfl)
    refine g1 ?_
    refine awp_ret ?_
    refine fin_mk [1] rfl rfl ?_ (objs_cons rfl rfl rfl rfl rfl (.inl rfl) objs_nil) (by decide)
    rfl
   refine ⟨⟨_, rfl, rfl, ?_⟩, trivial⟩
   refine g1 ?_ (hpre := by exact ⟨rfl, by omega, by (try simp only [List.length_map, List.length_append, List.length_take, List.length_drop]); omega, by (try simp only [List.length_map, List.length_append, List.length_take, List.length_drop]); omega⟩) (hst := by simp +decide (disch := omega) only [nrm, lk_nrm, dc_nrm, mk_nrm, mf_nrm, ti_nrm, ls_nrm, mp_nrm, nb_nrm, hset, pick_and, pick_or, ↓reduceIte, Nat.reduceAdd, wI64, wI32, wI16, wI8, wU8, List.length_map, Int.toNat_natCast, xn1, xn2, natadd', Int.toNat_natCast, Int.toNat_zero, List.drop_zero, Nat.sub_zero, ← List.map_drop, ← List.map_take, hd1, hd2]; rfl)
   refine anyS_cons T0_ok hP hm hN (by rfl) [4] (by rfl) rfl ?_
   refine ⟨⟨_, rfl, rfl, ?_⟩, trivial⟩
   refine ga1 ?_ (hpre := by refine ⟨?_, ?_, ?_, ?_, ?_, ?_, ?_⟩ <;> first | trivial | rfl | exact Nat.le_of_ble_eq_true rfl | (intro h; cases h; done) | (simp only [List.length_map, List.length_append, List.length_cons, List.length_nil, List.length_take, List.length_drop]; omega)) (hst := by simp +decide (disch := omega) only [nrm, lk_nrm, dc_nrm, mk_nrm, mf_nrm, ti_nrm, ls_nrm, mp_nrm, nb_nrm, hset, pick_and, pick_or, ↓reduceIte, Nat.reduceAdd, wI64, wI32, wI16, wI8, wU8, List.length_map, Int.toNat_natCast, xn1, xn2, kl_nrm, ← List.map_append, List.nil_append, ← List.map_drop, ← List.map_take, hd3]; rfl)
   refine anyS_cons T0_ok hP hm hN (by rfl) [10] (by rfl) rfl ?_
   refine ⟨⟨_, rfl, rfl, ?_⟩, trivial⟩
   refine ga1 ?_ (hpre := by refine ⟨?_, ?_, ?_, ?_, ?_, ?_, ?_⟩ <;> first | trivial | rfl | exact Nat.le_of_ble_eq_true rfl | (intro h; cases h; done) | (simp only [List.length_map, List.length_append, List.length_cons, List.length_nil, List.length_take, List.length_drop]; omega)) (hst := by simp +decide (disch := omega) only [nrm, lk_nrm, dc_nrm, mk_nrm, mf_nrm, ti_nrm, ls_nrm, mp_nrm, nb_nrm, hset, pick_and, pick_or, ↓reduceIte, Nat.reduceAdd, wI64, wI32, wI16, wI8, wU8, List.length_map, Int.toNat_natCast, xn1, xn2, kl_nrm, ← List.map_append, List.nil_append, ← List.map_drop, ← List.map_take, hd3]; rfl)
   refine anyS_cons T0_ok hP hm hN (by rfl) [11] (by rfl) rfl ?_
   refine ⟨⟨_, rfl, rfl, ?_⟩, trivial⟩
   refine g1 ?_
   refine anyS_done (by rfl) ?_
   refine awp_seq ?_
   refine r1 T0_ok hP hm hN ?_
   refine g1 ?_ (hst := by simp +decide (disch := omega) only [nrm, lk_nrm, dc_nrm, mk_nrm, mf_nrm, ti_nrm, ls_nrm, mp_nrm, nb_nrm, hset, pick_and, pick_or, ↓reduceIte, Nat.reduceAdd, wI64, wI32, wI16, wI8, wU8, List.length_map, Int.toNat_natCast, xn1, xn2, List.all_nil, Bool.not_true]; rfl)
   iterate 2 refine g1 ?_
   refine g1 ?_ (hpre := by exact ⟨rfl, by omega, by (try simp only [List.length_map, List.length_append, List.length_take, List.length_drop]); omega, by (try simp only [List.length_map, List.length_append, List.length_take, List.length_drop]); omega⟩) (hst := by simp +decide (disch := omega) only [nrm, lk_nrm, dc_nrm, mk_nrm, mf_nrm, ti_nrm, ls_nrm, mp_nrm, nb_nrm, hset, pick_and, pick_or, ↓reduceIte, Nat.reduceAdd, wI64, wI32, wI16, wI8, wU8, List.length_map, Int.toNat_natCast, xn1, xn2, natadd', Int.toNat_natCast, Int.toNat_zero, List.drop_zero, Nat.sub_zero, ← List.map_drop, ← List.map_take, hd1, hd2, List.length_append, hf1, hf2]; rfl)
   refine ga1 ?_ (hpre := by refine ⟨?_, ?_, ?_, ?_, ?_, ?_, ?_⟩ <;> first | trivial | rfl | exact Nat.le_of_ble_eq_true rfl | (intro h; cases h; done) | (simp only [List.length_map, List.length_append, List.length_cons, List.length_nil, List.length_take, List.length_drop]; omega)) (hst := by simp +decide (disch := omega) only [nrm, lk_nrm, dc_nrm, mk_nrm, mf_nrm, ti_nrm, ls_nrm, mp_nrm, nb_nrm, hset, pick_and, pick_or, ↓reduceIte, Nat.reduceAdd, wI64, wI32, wI16, wI8, wU8, List.length_map, Int.toNat_natCast, xn1, xn2, kl_nrm, ← List.map_append, List.nil_append, ← List.map_drop, ← List.map_take, hd3]; rfl)
   refine g1 ?_
   refine awp_seq ?_
   refine r1 T0_ok hP hm hN ?_
   iterate 5 refine g1 ?_
   refine g1 ?_ (hst := by simp +decide (disch := omega) only [nrm, lk_nrm, dc_nrm, mk_nrm, mf_nrm, ti_nrm, ls_nrm, mp_nrm, nb_nrm, hset, pick_and, pick_or, ↓reduceIte, Nat.reduceAdd, wI64, wI32, wI16, wI8, wU8, List.length_map, Int.toNat_natCast, xn1, xn2, natadd']; rfl)
   refine g1 ?_ (hpre := by exact ⟨rfl, by omega, by (try simp only [List.length_map, List.length_append, List.length_take, List.length_drop]); omega, by (try simp only [List.length_map, List.length_append, List.length_take, List.length_drop]); omega⟩) (hst := by simp +decide (disch := omega) only [nrm, lk_nrm, dc_nrm, mk_nrm, mf_nrm, ti_nrm, ls_nrm, mp_nrm, nb_nrm, hset, pick_and, pick_or, ↓reduceIte, Nat.reduceAdd, wI64, wI32, wI16, wI8, wU8, List.length_map, Int.toNat_natCast, xn1, xn2, natadd', Int.toNat_natCast, Int.toNat_zero, List.drop_zero, Nat.sub_zero, ← List.map_drop, ← List.map_take, hd1, hd2]; rfl)
   refine ga1 ?_ (hpre := by refine ⟨?_, ?_, ?_, ?_, ?_, ?_, ?_⟩ <;> first | trivial | rfl | exact Nat.le_of_ble_eq_true rfl | (intro h; cases h; done) | (simp only [List.length_map, List.length_append, List.length_cons, List.length_nil, List.length_take, List.length_drop]; omega)) (hst := by simp +decide (disch := omega) only [nrm, lk_nrm, dc_nrm, mk_nrm, mf_nrm, ti_nrm, ls_nrm, mp_nrm, nb_nrm, hset, pick_and, pick_or, ↓reduceIte, Nat.reduceAdd, wI64, wI32, wI16, wI8, wU8, List.length_map, Int.toNat_natCast, xn1, xn2, kl_nrm, ← List.map_append, List.nil_append, ← List.map_drop, ← List.map_take, hd3]; rfl)
   refine g1 ?_
   refine awp_seq ?_
   refine r1 T0_ok hP hm hN ?_
   iterate 3 refine g1 ?_
   refine g1 ?_ (hpre := by exact ⟨rfl, by omega, by (try simp only [List.length_map, List.length_append, List.length_take, List.length_drop]); omega, by (try simp only [List.length_map, List.length_append, List.length_take, List.length_drop]); omega⟩) (hst := by simp +decide (disch := omega) only [nrm, lk_nrm, dc_nrm, mk_nrm, mf_nrm, ti_nrm, ls_nrm, mp_nrm, nb_nrm, hset, pick_and, pick_or, ↓reduceIte, Nat.reduceAdd, wI64, wI32, wI16, wI8, wU8, List.length_map, Int.toNat_natCast, xn1, xn2, natadd', Int.toNat_natCast, Int.toNat_zero, List.drop_zero, Nat.sub_zero, ← List.map_drop, ← List.map_take, hd1, hd2, List.length_append, hf1, hf2]; rfl)
   refine ga1 ?_ (hpre := by refine ⟨?_, ?_, ?_, ?_, ?_, ?_, ?_⟩ <;> first | trivial | rfl | exact Nat.le_of_ble_eq_true rfl | (intro h; cases h; done) | (simp only [List.length_map, List.length_append, List.length_cons, List.length_nil, List.length_take, List.length_drop]; omega)) (hst := by simp +decide (disch := omega) only [nrm, lk_nrm, dc_nrm, mk_nrm, mf_nrm, ti_nrm, ls_nrm, mp_nrm, nb_nrm, hset, pick_and, pick_or, ↓reduceIte, Nat.reduceAdd, wI64, wI32, wI16, wI8, wU8, List.length_map, Int.toNat_natCast, xn1, xn2, kl_nrm, ← List.map_append, List.nil_append, ← List.map_drop, ← List.map_take, hd3]; rfl)
   refine g1 ?_
   refine awp_ret ?_
   refine fin_mk [1] rfl rfl ?_ (objs_cons rfl rfl rfl rfl rfl (.inl rfl) objs_nil) (by decide)
   rfl
  refine ⟨⟨_, rfl, rfl, ?_⟩, trivial⟩
  refine g1 ?_ (hpre := by exact ⟨rfl, by omega, by (try simp only [List.length_map, List.length_append, List.length_take, List.length_drop]); omega, by (try simp only [List.length_map, List.length_append, List.length_take, List.length_drop]); omega⟩) (hst := by simp +decide (disch := omega) only [nrm, lk_nrm, dc_nrm, mk_nrm, mf_nrm, ti_nrm, ls_nrm, mp_nrm, nb_nrm, hset, pick_and, pick_or, ↓reduceIte, Nat.reduceAdd, wI64, wI32, wI16, wI8, wU8, List.length_map, Int.toNat_natCast, xn1, xn2, natadd', Int.toNat_natCast, Int.toNat_zero, List.drop_zero, Nat.sub_zero, ← List.map_drop, ← List.map_take, hd1, hd2]; rfl)
  refine anyS_cons T0_ok hP hm hN (by rfl) [0] (by rfl) rfl ?_
  refine ⟨⟨_, rfl, rfl, ?_⟩, trivial⟩
  refine g1 ?_ (hst := by simp +decide (disch := omega) only [nrm, lk_nrm, dc_nrm, mk_nrm, mf_nrm, ti_nrm, ls_nrm, mp_nrm, nb_nrm, hset, pick_and, pick_or, ↓reduceIte, Nat.reduceAdd, wI64, wI32, wI16, wI8, wU8, List.length_map, Int.toNat_natCast, xn1, xn2, List.all_nil, Bool.not_true]; rfl)
  refine anyS_cons T0_ok hP hm hN (by rfl) [4] (by rfl) rfl ?_
  refine ⟨⟨_, rfl, rfl, ?_⟩, trivial⟩
  refine ga1 ?_ (hpre := by refine ⟨?_, ?_, ?_, ?_, ?_, ?_, ?_⟩ <;> first | trivial | rfl | exact Nat.le_of_ble_eq_true rfl | (intro h; cases h; done) | (simp only [List.length_map, List.length_append, List.length_cons, List.length_nil, List.length_take, List.length_drop]; omega)) (hst := by simp +decide (disch := omega) only [nrm, lk_nrm, dc_nrm, mk_nrm, mf_nrm, ti_nrm, ls_nrm, mp_nrm, nb_nrm, hset, pick_and, pick_or, ↓reduceIte, Nat.reduceAdd, wI64, wI32, wI16, wI8, wU8, List.length_map, Int.toNat_natCast, xn1, xn2, kl_nrm, ← List.map_append, List.nil_append, ← List.map_drop, ← List.map_take, hd3]; rfl)
  refine anyS_cons T0_ok hP hm hN (by rfl) [10] (by rfl) rfl ?_
  refine ⟨⟨_, rfl, rfl, ?_⟩, trivial⟩
  refine ga1 ?_ (hpre := by refine ⟨?_, ?_, ?_, ?_, ?_, ?_, ?_⟩ <;> first | trivial | rfl | exact Nat.le_of_ble_eq_true rfl | (intro h; cases h; done) | (simp only [List.length_map, List.length_append, List.length_cons, List.length_nil, List.length_take, List.length_drop]; omega)) (hst := by simp +decide (disch := omega) only [nrm, lk_nrm, dc_nrm, mk_nrm, mf_nrm, ti_nrm, ls_nrm, mp_nrm, nb_nrm, hset, pick_and, pick_or, ↓reduceIte, Nat.reduceAdd, wI64, wI32, wI16, wI8, wU8, List.length_map, Int.toNat_natCast, xn1, xn2, kl_nrm, ← List.map_append, List.nil_append, ← List.map_drop, ← List.map_take, hd3]; rfl)
  refine anyS_cons T0_ok hP hm hN (by rfl) [11] (by rfl) rfl ?_
  refine ⟨⟨_, rfl, rfl, ?_⟩, trivial⟩
  refine g1 ?_
  refine anyS_done (by rfl) ?_
  refine awp_seq ?_
  refine r1 T0_ok hP hm hN ?_
  refine g1 ?_ (hst := by simp +decide (disch := omega) only [nrm, lk_nrm, dc_nrm, mk_nrm, mf_nrm, ti_nrm, ls_nrm, mp_nrm, nb_nrm, hset, pick_and, pick_or, ↓reduceIte, Nat.reduceAdd, wI64, wI32, wI16, wI8, wU8, List.length_map, Int.toNat_natCast, xn1, xn2, List.all_nil, Bool.not_true]; rfl)
  iterate 2 refine g1 ?_
  refine g1 ?_ (hpre := by exact ⟨rfl, by omega, by (try simp only [List.length_map, List.length_append, List.length_take, List.length_drop]); omega, by (try simp only [List.length_map, List.length_append, List.length_take, List.length_drop]); omega⟩) (hst := by simp +decide (disch := omega) only [nrm, lk_nrm, dc_nrm, mk_nrm, mf_nrm, ti_nrm, ls_nrm, mp_nrm, nb_nrm, hset, pick_and, pick_or, ↓reduceIte, Nat.reduceAdd, wI64, wI32, wI16, wI8, wU8, List.length_map, Int.toNat_natCast, xn1, xn2, natadd', Int.toNat_natCast, Int.toNat_zero, List.drop_zero, Nat.sub_zero, ← List.map_drop, ← List.map_take, hd1, hd2, List.length_append, hf1, hf2]; rfl)
  refine ga1 ?_ (hpre := by refine ⟨?_, ?_, ?_, ?_, ?_, ?_, ?_⟩ <;> first | trivial | rfl | exact Nat.le_of_ble_eq_true rfl | (intro h; cases h; done) | (simp only [List.length_map, List.length_append, List.length_cons, List.length_nil, List.length_take, List.length_drop]; omega)) (hst := by simp +decide (disch := omega) only [nrm, lk_nrm, dc_nrm, mk_nrm, mf_nrm, ti_nrm, ls_nrm, mp_nrm, nb_nrm, hset, pick_and, pick_or, ↓reduceIte, Nat.reduceAdd, wI64, wI32, wI16, wI8, wU8, List.length_map, Int.toNat_natCast, xn1, xn2, kl_nrm, ← List.map_append, List.nil_append, ← List.map_drop, ← List.map_take, hd3]; rfl)
  refine g1 ?_
  refine awp_seq ?_
  refine r1 T0_ok hP hm hN ?_
  iterate 5 refine g1 ?_
  refine g1 ?_ (hst := by simp +decide (disch := omega) only [nrm, lk_nrm, dc_nrm, mk_nrm, mf_nrm, ti_nrm, ls_nrm, mp_nrm, nb_nrm, hset, pick_and, pick_or, ↓reduceIte, Nat.reduceAdd, wI64, wI32, wI16, wI8, wU8, List.length_map, Int.toNat_natCast, xn1, xn2, natadd']; rfl)
  refine g1 ?_ (hpre := by exact ⟨rfl, by omega, by (try simp only [List.length_map, List.length_append, List.length_take, List.length_drop]); omega, by (try simp only [List.length_map, List.length_append, List.length_take, List.length_drop]); omega⟩) (hst := by simp +decide (disch := omega) only [nrm, lk_nrm, dc_nrm, mk_nrm, mf_nrm, ti_nrm, ls_nrm, mp_nrm, nb_nrm, hset, pick_and, pick_or, ↓reduceIte, Nat.reduceAdd, wI64, wI32, wI16, wI8, wU8, List.length_map, Int.toNat_natCast, xn1, xn2, natadd', Int.toNat_natCast, Int.toNat_zero, List.drop_zero, Nat.sub_zero, ← List.map_drop, ← List.map_take, hd1, hd2]; rfl)
  refine ga1 ?_ (hpre := by refine ⟨?_, ?_, ?_, ?_, ?_, ?_, ?_⟩ <;> first | trivial | rfl | exact Nat.le_of_ble_eq_true rfl | (intro h; cases h; done) | (simp only [List.length_map, List.length_append, List.length_cons, List.length_nil, List.length_take, List.length_drop]; omega)) (hst := by simp +decide (disch := omega) only [nrm, lk_nrm, dc_nrm, mk_nrm, mf_nrm, ti_nrm, ls_nrm, mp_nrm, nb_nrm, hset, pick_and, pick_or, ↓reduceIte, Nat.reduceAdd, wI64, wI32, wI16, wI8, wU8, List.length_map, Int.toNat_natCast, xn1, xn2, kl_nrm, ← List.map_append, List.nil_append, ← List.map_drop, ← List.map_take, hd3]; rfl)
  refine g1 ?_
  refine awp_seq ?_
  refine r1 T0_ok hP hm hN ?_
  iterate 3 refine g1 ?_
  refine g1 ?_ (hpre := by exact ⟨rfl, by omega, by (try simp only [List.length_map, List.length_append, List.length_take, List.length_drop]); omega, by (try simp only [List.length_map, List.length_append, List.length_take, List.length_drop]); omega⟩) (hst := by simp +decide (disch := omega) only [nrm, lk_nrm, dc_nrm, mk_nrm, mf_nrm, ti_nrm, ls_nrm, mp_nrm, nb_nrm, hset, pick_and, pick_or, ↓reduceIte, Nat.reduceAdd, wI64, wI32, wI16, wI8, wU8, List.length_map, Int.toNat_natCast, xn1, xn2, natadd', Int.toNat_natCast, Int.toNat_zero, List.drop_zero, Nat.sub_zero, ← List.map_drop, ← List.map_take, hd1, hd2, List.length_append, hf1, hf2]; rfl)
  refine ga1 ?_ (hpre := by refine ⟨?_, ?_, ?_, ?_, ?_, ?_, ?_⟩ <;> first | trivial | rfl | exact Nat.le_of_ble_eq_true rfl | (intro h; cases h; done) | (simp only [List.length_map, List.length_append, List.length_cons, List.length_nil, List.length_take, List.length_drop]; omega)) (hst := by simp +decide (disch := omega) only [nrm, lk_nrm, dc_nrm, mk_nrm, mf_nrm, ti_nrm, ls_nrm, mp_nrm, nb_nrm, hset, pick_and, pick_or, ↓reduceIte, Nat.reduceAdd, wI64, wI32, wI16, wI8, wU8, List.length_map, Int.toNat_natCast, xn1, xn2, kl_nrm, ← List.map_append, List.nil_append, ← List.map_drop, ← List.map_take, hd3]; rfl)
  refine g1 ?_
  refine awp_ret ?_
  refine fin_mk [1] rfl rfl ?_ (objs_cons rfl rfl rfl rfl rfl (.inl rfl) objs_nil) (by decide)
  rfl
 refine ⟨⟨_, rfl, rfl, ?_⟩, trivial⟩
 refine g1 ?_ (hpre := by exact ⟨rfl, by omega, by (try simp only [List.length_map, List.length_append, List.length_take, List.length_drop]); omega, by (try simp only [List.length_map, List.length_append, List.length_take, List.length_drop]); omega⟩) (hst := by simp +decide (disch := omega) only [nrm, lk_nrm, dc_nrm, mk_nrm, mf_nrm, ti_nrm, ls_nrm, mp_nrm, nb_nrm, hset, pick_and, pick_or, ↓reduceIte, Nat.reduceAdd, wI64, wI32, wI16, wI8, wU8, List.length_map, Int.toNat_natCast, xn1, xn2, natadd', Int.toNat_natCast, Int.toNat_zero, List.drop_zero, Nat.sub_zero, ← List.map_drop, ← List.map_take, hd1, hd2]; rfl)
 refine anyS_cons T0_ok hP hm hN (by rfl) [0, 3] (by rfl) rfl ?_
 refine ⟨⟨_, rfl, rfl, ?_⟩, ?_⟩
 ·
  refine g1 ?_ (hst := by simp +decide (disch := omega) only [nrm, lk_nrm, dc_nrm, mk_nrm, mf_nrm, ti_nrm, ls_nrm, mp_nrm, nb_nrm, hset, pick_and, pick_or, ↓reduceIte, Nat.reduceAdd, wI64, wI32, wI16, wI8, wU8, List.length_map, Int.toNat_natCast, xn1, xn2, List.all_nil, Bool.not_true]; rfl)
  refine anyS_cons T0_ok hP hm hN (by rfl) [3] (by rfl) rfl ?_
  refine ⟨⟨_, rfl, rfl, ?_⟩, trivial⟩
  refine g1 ?_ (hpre := by exact ⟨rfl, by omega, by (try simp only [List.length_map, List.length_append, List.length_take, List.length_drop]); omega, by (try simp only [List.length_map, List.length_append, List.length_take, List.length_drop]); omega⟩) (hst := by simp +decide (disch := omega) only [nrm, lk_nrm, dc_nrm, mk_nrm, mf_nrm, ti_nrm, ls_nrm, mp_nrm, nb_nrm, hset, pick_and, pick_or, ↓reduceIte, Nat.reduceAdd, wI64, wI32, wI16, wI8, wU8, List.length_map, Int.toNat_natCast, xn1, xn2, natadd', Int.toNat_natCast, Int.toNat_zero, List.drop_zero, Nat.sub_zero, ← List.map_drop, ← List.map_take, hd1, hd2]; rfl)
  refine anyS_cons T0_ok hP hm hN (by rfl) [4] (by rfl) rfl ?_
  refine ⟨⟨_, rfl, rfl, ?_⟩, trivial⟩
  refine ga1 ?_ (hpre := by refine ⟨?_, ?_, ?_, ?_, ?_, ?_, ?_⟩ <;> first | trivial | rfl | exact Nat.le_of_ble_eq_true rfl | (intro h; cases h; done) | (simp only [List.length_map, List.length_append, List.length_cons, List.length_nil, List.length_take, List.length_drop]; omega)) (hst := by simp +decide (disch := omega) only [nrm, lk_nrm, dc_nrm, mk_nrm, mf_nrm, ti_nrm, ls_nrm, mp_nrm, nb_nrm, hset, pick_and, pick_or, ↓reduceIte, Nat.reduceAdd, wI64, wI32, wI16, wI8, wU8, List.length_map, Int.toNat_natCast, xn1, xn2, kl_nrm, ← List.map_append, List.nil_append, ← List.map_drop, ← List.map_take, hd3]; rfl)
  refine anyS_cons T0_ok hP hm hN (by rfl) [10] (by rfl) rfl ?_
  refine ⟨⟨_, rfl, rfl, ?_⟩, trivial⟩
  refine ga1 ?_ (hpre := by refine ⟨?_, ?_, ?_, ?_, ?_, ?_, ?_⟩ <;> first | trivial | rfl | exact Nat.le_of_ble_eq_true rfl | (intro h; cases h; done) | (simp only [List.length_map, List.length_append, List.length_cons, List.length_nil, List.length_take, List.length_drop]; omega)) (hst := by simp +decide (disch := omega) only [nrm, lk_nrm, dc_nrm, mk_nrm, mf_nrm, ti_nrm, ls_nrm, mp_nrm, nb_nrm, hset, pick_and, pick_or, ↓reduceIte, Nat.reduceAdd, wI64, wI32, wI16, wI8, wU8, List.length_map, Int.toNat_natCast, xn1, xn2, kl_nrm, ← List.map_append, List.nil_append, ← List.map_drop, ← List.map_take, hd3]; rfl)
  refine anyS_cons T0_ok hP hm hN (by rfl) [11] (by rfl) rfl ?_
  refine ⟨⟨_, rfl, rfl, ?_⟩, trivial⟩
  refine g1 ?_
  refine anyS_done (by rfl) ?_
  refine awp_seq ?_
  refine r1 T0_ok hP hm hN ?_
  refine g1 ?_ (hst := by simp +decide (disch := omega) only [nrm, lk_nrm, dc_nrm, mk_nrm, mf_nrm, ti_nrm, ls_nrm, mp_nrm, nb_nrm, hset, pick_and, pick_or, ↓reduceIte, Nat.reduceAdd, wI64, wI32, wI16, wI8, wU8, List.length_map, Int.toNat_natCast, xn1, xn2, List.all_nil, Bool.not_true]; rfl)
  iterate 2 refine g1 ?_
  refine g1 ?_ (hpre := by exact ⟨rfl, by omega, by (try simp only [List.length_map, List.length_append, List.length_take, List.length_drop]); omega, by (try simp only [List.length_map, List.length_append, List.length_take, List.length_drop]); omega⟩) (hst := by simp +decide (disch := omega) only [nrm, lk_nrm, dc_nrm, mk_nrm, mf_nrm, ti_nrm, ls_nrm, mp_nrm, nb_nrm, hset, pick_and, pick_or, ↓reduceIte, Nat.reduceAdd, wI64, wI32, wI16, wI8, wU8, List.length_map, Int.toNat_natCast, xn1, xn2, natadd', Int.toNat_natCast, Int.toNat_zero, List.drop_zero, Nat.sub_zero, ← List.map_drop, ← List.map_take, hd1, hd2, List.length_append, hf1, hf2]; rfl)
  refine ga1 ?_ (hpre := by refine ⟨?_, ?_, ?_, ?_, ?_, ?_, ?_⟩ <;> first | trivial | rfl | exact Nat.le_of_ble_eq_true rfl | (intro h; cases h; done) | (simp only [List.length_map, List.length_append, List.length_cons, List.length_nil, List.length_take, List.length_drop]; omega)) (hst := by simp +decide (disch := omega) only [nrm, lk_nrm, dc_nrm, mk_nrm, mf_nrm, ti_nrm, ls_nrm, mp_nrm, nb_nrm, hset, pick_and, pick_or, ↓reduceIte, Nat.reduceAdd, wI64, wI32, wI16, wI8, wU8, List.length_map, Int.toNat_natCast, xn1, xn2, kl_nrm, ← List.map_append, List.nil_append, ← List.map_drop, ← List.map_take, hd3]; rfl)
  refine g1 ?_
  refine awp_seq ?_
  refine r1 T0_ok hP hm hN ?_
  iterate 5 refine g1 ?_
  refine g1 ?_ (hst := by simp +decide (disch := omega) only [nrm, lk_nrm, dc_nrm, mk_nrm, mf_nrm, ti_nrm, ls_nrm, mp_nrm, nb_nrm, hset, pick_and, pick_or, ↓reduceIte, Nat.reduceAdd, wI64, wI32, wI16, wI8, wU8, List.length_map, Int.toNat_natCast, xn1, xn2, natadd']; rfl)
  refine g1 ?_ (hpre := by exact ⟨rfl, by omega, by (try simp only [List.length_map, List.length_append, List.length_take, List.length_drop]); omega, by (try simp only [List.length_map, List.length_append, List.length_take, List.length_drop]); omega⟩) (hst := by simp +decide (disch := omega) only [nrm, lk_nrm, dc_nrm, mk_nrm, mf_nrm, ti_nrm, ls_nrm, mp_nrm, nb_nrm, hset, pick_and, pick_or, ↓reduceIte, Nat.reduceAdd, wI64, wI32, wI16, wI8, wU8, List.length_map, Int.toNat_natCast, xn1, xn2, natadd', Int.toNat_natCast, Int.toNat_zero, List.drop_zero, Nat.sub_zero, ← List.map_drop, ← List.map_take, hd1, hd2]; rfl)
  refine ga1 ?_ (hpre := by refine ⟨?_, ?_, ?_, ?_, ?_, ?_, ?_⟩ <;> first | trivial | rfl | exact Nat.le_of_ble_eq_true rfl | (intro h; cases h; done) | (simp only [List.length_map, List.length_append, List.length_cons, List.length_nil, List.length_take, List.length_drop]; omega)) (hst := by simp +decide (disch := omega) only [nrm, lk_nrm, dc_nrm, mk_nrm, mf_nrm, ti_nrm, ls_nrm, mp_nrm, nb_nrm, hset, pick_and, pick_or, ↓reduceIte, Nat.reduceAdd, wI64, wI32, wI16, wI8, wU8, List.length_map, Int.toNat_natCast, xn1, xn2, kl_nrm, ← List.map_append, List.nil_append, ← List.map_drop, ← List.map_take, hd3]; rfl)
  refine g1 ?_
  refine awp_seq ?_
  refine r1 T0_ok hP hm hN ?_
  iterate 3 refine g1 ?_
  refine g1 ?_ (hpre := by exact ⟨rfl, by omega, by (try simp only [List.length_map, List.length_append, List.length_take, List.length_drop]); omega, by (try simp only [List.length_map, List.length_append, List.length_take, List.length_drop]); omega⟩) (hst := by simp +decide (disch := omega) only [nrm, lk_nrm, dc_nrm, mk_nrm, mf_nrm, ti_nrm, ls_nrm, mp_nrm, nb_nrm, hset, pick_and, pick_or, ↓reduceIte, Nat.reduceAdd, wI64, wI32, wI16, wI8, wU8, List.length_map, Int.toNat_natCast, xn1, xn2, natadd', Int.toNat_natCast, Int.toNat_zero, List.drop_zero, Nat.sub_zero, ← List.map_drop, ← List.map_take, hd1, hd2, List.length_append, hf1, hf2]; rfl)
  refine ga1 ?_ (hpre := by refine ⟨?_, ?_, ?_, ?_, ?_, ?_, ?_⟩ <;> first | trivial | rfl | exact Nat.le_of_ble_eq_true rfl | (intro h; cases h; done) | (simp only [List.length_map, List.length_append, List.length_cons, List.length_nil, List.length_take, List.length_drop]; omega)) (hst := by simp +decide (disch := omega) only [nrm, lk_nrm, dc_nrm, mk_nrm, mf_nrm, ti_nrm, ls_nrm, mp_nrm, nb_nrm, hset, pick_and, pick_or, ↓reduceIte, Nat.reduceAdd, wI64, wI32, wI16, wI8, wU8, List.length_map, Int.toNat_natCast, xn1, xn2, kl_nrm, ← List.map_append, List.nil_append, ← List.map_drop, ← List.map_take, hd3]; rfl)
  refine g1 ?_
  refine awp_ret ?_
  refine fin_mk [1] rfl rfl ?_ (objs_cons rfl rfl rfl rfl rfl (.inl rfl) objs_nil) (by decide)
  rfl
 refine ⟨⟨_, rfl, rfl, ?_⟩, trivial⟩
 refine g1 ?_ (hpre := by exact ⟨rfl, by omega, by (try simp only [List.length_map, List.length_append, List.length_take, List.length_drop]); omega, by (try simp only [List.length_map, List.length_append, List.length_take, List.length_drop]); omega⟩) (hst := by simp +decide (disch := omega) only [nrm, lk_nrm, dc_nrm, mk_nrm, mf_nrm, ti_nrm, ls_nrm, mp_nrm, nb_nrm, hset, pick_and, pick_or, ↓reduceIte, Nat.reduceAdd, wI64, wI32, wI16, wI8, wU8, List.length_map, Int.toNat_natCast, xn1, xn2, natadd', Int.toNat_natCast, Int.toNat_zero, List.drop_zero, Nat.sub_zero, ← List.map_drop, ← List.map_take, hd1, hd2]; rfl)
 refine anyS_cons T0_ok hP hm hN (by rfl) [0] (by rfl) rfl ?_
 refine ⟨⟨_, rfl, rfl, ?_⟩, trivial⟩
 refine g1 ?_ (hst := by simp +decide (disch := omega) only [nrm, lk_nrm, dc_nrm, mk_nrm, mf_nrm, ti_nrm, ls_nrm, mp_nrm, nb_nrm, hset, pick_and, pick_or, ↓reduceIte, Nat.reduceAdd, wI64, wI32, wI16, wI8, wU8, List.length_map, Int.toNat_natCast, xn1, xn2, List.all_nil, Bool.not_true]; rfl)
 refine anyS_cons T0_ok hP hm hN (by rfl) [4] (by rfl) rfl ?_
 refine ⟨⟨_, rfl, rfl, ?_⟩, trivial⟩
 refine ga1 ?_ (hpre := by refine ⟨?_, ?_, ?_, ?_, ?_, ?_, ?_⟩ <;> first | trivial | rfl | exact Nat.le_of_ble_eq_true rfl | (intro h; cases h; done) | (simp only [List.length_map, List.length_append, List.length_cons, List.length_nil, List.length_take, List.length_drop]; omega)) (hst := by simp +decide (disch := omega) only [nrm, lk_nrm, dc_nrm, mk_nrm, mf_nrm, ti_nrm, ls_nrm, mp_nrm, nb_nrm, hset, pick_and, pick_or, ↓reduceIte, Nat.reduceAdd, wI64, wI32, wI16, wI8, wU8, List.length_map, Int.toNat_natCast, xn1, xn2, kl_nrm, ← List.map_append, List.nil_append, ← List.map_drop, ← List.map_take, hd3]; rfl)
 refine anyS_cons T0_ok hP hm hN (by rfl) [10] (by rfl) rfl ?_
 refine ⟨⟨_, rfl, rfl, ?_⟩, trivial⟩
 refine ga1 ?_ (hpre := by refine ⟨?_, ?_, ?_, ?_, ?_, ?_, ?_⟩ <;> first | trivial | rfl | exact Nat.le_of_ble_eq_true rfl | (intro h; cases h; done) | (simp only [List.length_map, List.length_append, List.length_cons, List.length_nil, List.length_take, List.length_drop]; omega)) (hst := by simp +decide (disch := omega) only [nrm, lk_nrm, dc_nrm, mk_nrm, mf_nrm, ti_nrm, ls_nrm, mp_nrm, nb_nrm, hset, pick_and, pick_or, ↓reduceIte, Nat.reduceAdd, wI64, wI32, wI16, wI8, wU8, List.length_map, Int.toNat_natCast, xn1, xn2, kl_nrm, ← List.map_append, List.nil_append, ← List.map_drop, ← List.map_take, hd3]; rfl)
 refine anyS_cons T0_ok hP hm hN (by rfl) [11] (by rfl) rfl ?_
 refine ⟨⟨_, rfl, rfl, ?_⟩, trivial⟩
 refine g1 ?_
 refine anyS_done (by rfl) ?_
 refine awp_seq ?_
 refine r1 T0_ok hP hm hN ?_
 refine g1 ?_ (hst := by simp +decide (disch := omega) only [nrm, lk_nrm, dc_nrm, mk_nrm, mf_nrm, ti_nrm, ls_nrm, mp_nrm, nb_nrm, hset, pick_and, pick_or, ↓reduceIte, Nat.reduceAdd, wI64, wI32, wI16, wI8, wU8, List.length_map, Int.toNat_natCast, xn1, xn2, List.all_nil, Bool.not_true]; rfl)
 iterate 2 refine g1 ?_
 refine g1 ?_ (hpre := by exact ⟨rfl, by omega, by (try simp only [List.length_map, List.length_append, List.length_take, List.length_drop]); omega, by (try simp only [List.length_map, List.length_append, List.length_take, List.length_drop]); omega⟩) (hst := by simp +decide (disch := omega) only [nrm, lk_nrm, dc_nrm, mk_nrm, mf_nrm, ti_nrm, ls_nrm, mp_nrm, nb_nrm, hset, pick_and, pick_or, ↓reduceIte, Nat.reduceAdd, wI64, wI32, wI16, wI8, wU8, List.length_map, Int.toNat_natCast, xn1, xn2, natadd', Int.toNat_natCast, Int.toNat_zero, List.drop_zero, Nat.sub_zero, ← List.map_drop, ← List.map_take, hd1, hd2, List.length_append, hf1, hf2]; rfl)
 refine ga1 ?_ (hpre := by refine ⟨?_, ?_, ?_, ?_, ?_, ?_, ?_⟩ <;> first | trivial | rfl | exact Nat.le_of_ble_eq_true rfl | (intro h; cases h; done) | (simp only [List.length_map, List.length_append, List.length_cons, List.length_nil, List.length_take, List.length_drop]; omega)) (hst := by simp +decide (disch := omega) only [nrm, lk_nrm, dc_nrm, mk_nrm, mf_nrm, ti_nrm, ls_nrm, mp_nrm, nb_nrm, hset, pick_and, pick_or, ↓reduceIte, Nat.reduceAdd, wI64, wI32, wI16, wI8, wU8, List.length_map, Int.toNat_natCast, xn1, xn2, kl_nrm, ← List.map_append, List.nil_append, ← List.map_drop, ← List.map_take, hd3]; rfl)
 refine g1 ?_
 refine awp_seq ?_
 refine r1 T0_ok hP hm hN ?_
 iterate 5 refine g1 ?_
 refine g1 ?_ (hst := by simp +decide (disch := omega) only [nrm, lk_nrm, dc_nrm, mk_nrm, mf_nrm, ti_nrm, ls_nrm, mp_nrm, nb_nrm, hset, pick_and, pick_or, ↓reduceIte, Nat.reduceAdd, wI64, wI32, wI16, wI8, wU8, List.length_map, Int.toNat_natCast, xn1, xn2, natadd']; rfl)
 refine g1 ?_ (hpre := by exact ⟨rfl, by omega, by (try simp only [List.length_map, List.length_append, List.length_take, List.length_drop]); omega, by (try simp only [List.length_map, List.length_append, List.length_take, List.length_drop]); omega⟩) (hst := by simp +decide (disch := omega) only [nrm, lk_nrm, dc_nrm, mk_nrm, mf_nrm, ti_nrm, ls_nrm, mp_nrm, nb_nrm, hset, pick_and, pick_or, ↓reduceIte, Nat.reduceAdd, wI64, wI32, wI16, wI8, wU8, List.length_map, Int.toNat_natCast, xn1, xn2, natadd', Int.toNat_natCast, Int.toNat_zero, List.drop_zero, Nat.sub_zero, ← List.map_drop, ← List.map_take, hd1, hd2]; rfl)
 refine ga1 ?_ (hpre := by refine ⟨?_, ?_, ?_, ?_, ?_, ?_, ?_⟩ <;> first | trivial | rfl | exact Nat.le_of_ble_eq_true rfl | (intro h; cases h; done) | (simp only [List.length_map, List.length_append, List.length_cons, List.length_nil, List.length_take, List.length_drop]; omega)) (hst := by simp +decide (disch := omega) only [nrm, lk_nrm, dc_nrm, mk_nrm, mf_nrm, ti_nrm, ls_nrm, mp_nrm, nb_nrm, hset, pick_and, pick_or, ↓reduceIte, Nat.reduceAdd, wI64, wI32, wI16, wI8, wU8, List.length_map, Int.toNat_natCast, xn1, xn2, kl_nrm, ← List.map_append, List.nil_append, ← List.map_drop, ← List.map_take, hd3]; rfl)
 refine g1 ?_
 refine awp_seq ?_
 refine r1 T0_ok hP hm hN ?_
 iterate 3 refine g1 ?_
 refine g1 ?_ (hpre := by exact ⟨rfl, by omega, by (try simp only [List.length_map, List.length_append, List.length_take, List.length_drop]); omega, by (try simp only [List.length_map, List.length_append, List.length_take, List.length_drop]); omega⟩) (hst := by simp +decide (disch := omega) only [nrm, lk_nrm, dc_nrm, mk_nrm, mf_nrm, ti_nrm, ls_nrm, mp_nrm, nb_nrm, hset, pick_and, pick_or, ↓reduceIte, Nat.reduceAdd, wI64, wI32, wI16, wI8, wU8, List.length_map, Int.toNat_natCast, xn1, xn2, natadd', Int.toNat_natCast, Int.toNat_zero, List.drop_zero, Nat.sub_zero, ← List.map_drop, ← List.map_take, hd1, hd2, List.length_append, hf1, hf2]; rfl)
 refine ga1 ?_ (hpre := by refine ⟨?_, ?_, ?_, ?_, ?_, ?_, ?_⟩ <;> first | trivial | rfl | exact Nat.le_of_ble_eq_true rfl | (intro h; cases h; done) | (simp only [List.length_map, List.length_append, List.length_cons, List.length_nil, List.length_take, List.length_drop]; omega)) (hst := by simp +decide (disch := omega) only [nrm, lk_nrm, dc_nrm, mk_nrm, mf_nrm, ti_nrm, ls_nrm, mp_nrm, nb_nrm, hset, pick_and, pick_or, ↓reduceIte, Nat.reduceAdd, wI64, wI32, wI16, wI8, wU8, List.length_map, Int.toNat_natCast, xn1, xn2, kl_nrm, ← List.map_append, List.nil_append, ← List.map_drop, ← List.map_take, hd3]; rfl)
 refine g1 ?_
 refine awp_ret ?_
 refine fin_mk [1] rfl rfl ?_ (objs_cons rfl rfl rfl rfl rfl (.inl rfl) objs_nil) (by decide)
 rfl
end Go.Proofs.YtpdkhlpmiblflaaGreat.Abs

