import Derived.Test.YtheoapoddmmahaaGreatGs
set_option linter.unusedVariables false
set_option linter.unusedSimpArgs false
namespace Go.Proofs.YtheoapoddmmahaaGreat.Abs
open Go Go.RowKit
noncomputable abbrev s_S_l04Needed : Spec (List Int × List Bk × Int) where
  args := fun x => [.sl 1 (i64s x.1), .sl 8 (bks x.2.1), .val (.int .i64 x.2.2)]
  pre := fun x => PreG x.1 x.2.1 ∧ 1 ≤ x.2.2 ∧ x.2.2 ≤ 2000
  new := fun x => [⟨2, 1, false, i64s ((grpL x.1 x.2.1).map (nedI x.2.1 x.2.2))⟩]
  res := fun x => .own 0

set_option maxRecDepth 20000 in
set_option maxHeartbeats 8000000 in
theorem ok_S_l04Needed : FnOk Pr 59 s_S_l04Needed := by
 refine fn_ok0 3 T0_ok Go.Proofs.Tryz.func59 rfl (enters_of Go.Proofs.Tryz.func59 rfl rfl) (fun _ => rfl) (fun _ => rfl) (fun _ => rfl) ?_
 rintro ⟨hs, bs, wide⟩ ⟨hpg, hwb⟩ C hP hN hm hG hS0
 change awp C _ _ ⟨[(0, .sl 1 (i64s hs)), (1, .sl 8 (bks bs)), (2, .val (.int .i64 wide))], [], 0⟩
 simp only at hpg hwb
 have h60 := hpg.1.2.2
 have h6 := hpg.2.2.2
 have hpb : PreB bs wide := ⟨hpg.1, hwb⟩
 have xn1 := @i64s_set3
 refine awp_seq ?_
 refine r1 T0_ok hP hm hN ?_
 refine g1 ?_
 refine awp_seq ?_
 refine awp_sreg rfl ?_
 refine sg1 T0_ok hP hm hN ?_
 refine sg1 T0_ok hP hm hN ?_
 refine sreg_callN hP hN hG ok_S_l04Groups (hs, bs) (by decide) (show _ ∧ _ from ⟨hpg.1.1, (show bs.length ≤ 1048576 by have := hpg.1.2.2; omega), (show hs.length ≤ 1048576 by have := hpg.2.2.2; omega)⟩) rfl rfl rfl rfl (fm_cons rfl fm_nil) rfl rfl ?_
 refine sreg_weak (show Weak C _ ⟨[(16, .own 0), (1, .sl 8 (bks bs)), (2, .val (.int .i64 wide))], [(0, ⟨31, 1, false, i64ss (grpL hs bs)⟩)], 0 + 1⟩ from weak_sl (sub_cons rfl (sub_cons rfl (sub_cons rfl (sub_nil))))) ?_
 refine sreg_rest T0_ok hP hm hN ?_
 refine g1 ?_
 
 refine awp_seq ?_
 refine r1 T0_ok hP hm hN ?_
 refine g1 ?_ (hst := by simp +decide (disch := omega) only [nrm, lk_nrm, dc_nrm, mk_nrm, mf_nrm, ti_nrm, ls_nrm, mp_nrm, nb_nrm, hset, pick_and, pick_or, ↓reduceIte, Nat.reduceAdd, wI64, wI32, wI16, wI8, wU8, List.length_map, Int.toNat_natCast, xn1, xn2, List.all_nil, Bool.not_true]; rfl)
 refine g1 ?_
 refine awp_seq ?_
 refine awp_seq ?_
 refine r1 T0_ok hP hm hN ?_
 refine g1 ?_
 refine awp_block ?_
 refine awp_loop (fun n st => ∃ h : Nat, h ≤ (grpL hs bs).length ∧ n = (grpL hs bs).length - h ∧ st = ⟨[(9, .val (.int .i64 ((h : Nat) : Int))), (8, .own 1), (7, .own 0), (1, .sl 8 (bks bs)), (2, .val (.int .i64 wide))], [(1, ⟨2, 1, false, i64s (mapF (nedI bs wide) (grpL hs bs) h)⟩), (0, ⟨31, 1, false, i64ss (grpL hs bs)⟩)], 2⟩) ((grpL hs bs).length) ⟨_, weak_sl (sub_cons rfl (sub_cons rfl (sub_cons rfl (sub_cons rfl (sub_cons rfl (sub_nil)))))), 0, by omega, rfl, rfl⟩ ?_
 rintro n st ⟨h, hih, hnh, rfl⟩
 have hml := mapF_len (nedI bs wide) (grpL hs bs) hih
 have hgl : (grpL hs bs).length = hs.length := grpF_len _ _ _
 refine awp_seq ?_
 refine awp_seq ?_
 refine r1 T0_ok hP hm hN ?_
 iterate 4 refine g1 ?_
 refine awp_cond rfl (fun hc0 => ?_) (fun hc0 => ?_)
 ·
  have hlth : h < (grpL hs bs).length := by simpa using hc0
  have hq : QOk bs ((grpL hs bs).getD h []) := grpL_get hpg.1.2.2 hlth
  have hgk := i64ss_get (grpL hs bs) h hlth
  have hq60 := hq.2
  refine awp_skip ?_
  refine awp_seq ?_
  refine awp_block ?_
  refine awp_seq ?_
  refine r1 T0_ok hP hm hN ?_
  refine g1 ?_ (hst := by simp +decide (disch := omega) only [nrm, lk_nrm, dc_nrm, mk_nrm, mf_nrm, ti_nrm, ls_nrm, mp_nrm, nb_nrm, hset, pick_and, pick_or, ↓reduceIte, Nat.reduceAdd, wI64, wI32, wI16, wI8, wU8, List.length_map, Int.toNat_natCast, xn1, xn2, List.all_nil, Bool.not_true]; rfl)
  refine g1 ?_
  refine awp_seq ?_
  refine awp_seq ?_
  refine r1 T0_ok hP hm hN ?_
  refine g1 ?_
  refine awp_block ?_
  refine awp_loop (fun n st => ∃ i : Nat, i ≤ ((grpL hs bs).getD h []).length ∧ n = ((grpL hs bs).getD h []).length - i ∧ st = ⟨[(11, .val (.int .i64 ((i : Nat) : Int))), (10, .own 2), (9, .val (.int .i64 ((h : Nat) : Int))), (8, .own 1), (7, .own 0), (1, .sl 8 (bks bs)), (2, .val (.int .i64 wide))], [(2, ⟨2, 1, false, i64s (usedL wide (leftF wide (wq bs ((grpL hs bs).getD h [])) i))⟩), (1, ⟨2, 1, false, i64s (mapF (nedI bs wide) (grpL hs bs) h)⟩), (0, ⟨31, 1, false, i64ss (grpL hs bs)⟩)], 3⟩) (((grpL hs bs).getD h []).length) ⟨_, weak_sl (sub_cons rfl (sub_cons rfl (sub_cons rfl (sub_cons rfl (sub_cons rfl (sub_cons rfl (sub_cons rfl (sub_nil)))))))), 0, by omega, rfl, rfl⟩ ?_
  rintro n st ⟨i, hii, hni, rfl⟩
  have hll := leftF_len wide (wq bs ((grpL hs bs).getD h [])) i
  have hlb := leftF_b hwb i (fun j hj => wq_b hpb hq j (by omega))
  have hul := usedL_len wide (leftF wide (wq bs ((grpL hs bs).getD h [])) i)
  refine awp_seq ?_
  refine awp_seq ?_
  refine r1 T0_ok hP hm hN ?_
  iterate 7 refine g1 ?_
  refine awp_cond rfl (fun hc1 => ?_) (fun hc1 => ?_)
  ·
   have hlti : i < ((grpL hs bs).getD h []).length := by simpa using hc1
   have hxm := hq.1 _ (getD_mem' (d := 0) hlti)
   have hwx := wdt_b hpb hxm
   have hgx := bks_get bs (((grpL hs bs).getD h []).getD i 0).toNat (by omega)
   refine awp_skip ?_
   refine awp_seq ?_
   refine awp_block ?_
   refine awp_seq ?_
   refine r1 T0_ok hP hm hN ?_
   iterate 13 refine g1 ?_
   refine awp_seq ?_
   refine r1 T0_ok hP hm hN ?_
   refine g1 ?_
   refine awp_seq ?_
   refine awp_block ?_
   refine awp_loop (fun n st => ∃ k : Nat, k ≤ (leftF wide (wq bs ((grpL hs bs).getD h [])) i).length ∧ (∀ j, j < k → isHigh (bs.getD (((grpL hs bs).getD h []).getD i 0).toNat bk0).wide ((leftF wide (wq bs ((grpL hs bs).getD h [])) i).getD j 0) = false) ∧ n = (leftF wide (wq bs ((grpL hs bs).getD h [])) i).length - k ∧ st = ⟨[(13, .val (.int .i64 ((k : Nat) : Int))), (12, .val (.int .i64 (bs.getD (((grpL hs bs).getD h []).getD i 0).toNat bk0).wide)), (11, .val (.int .i64 ((i : Nat) : Int))), (10, .own 2), (9, .val (.int .i64 ((h : Nat) : Int))), (8, .own 1), (7, .own 0), (1, .sl 8 (bks bs)), (2, .val (.int .i64 wide))], [(2, ⟨2, 1, false, i64s (usedL wide (leftF wide (wq bs ((grpL hs bs).getD h [])) i))⟩), (1, ⟨2, 1, false, i64s (mapF (nedI bs wide) (grpL hs bs) h)⟩), (0, ⟨31, 1, false, i64ss (grpL hs bs)⟩)], 3⟩) ((leftF wide (wq bs ((grpL hs bs).getD h [])) i).length) ⟨_, weak_sl (sub_cons rfl (sub_cons rfl (sub_cons rfl (sub_cons rfl (sub_cons rfl (sub_cons rfl (sub_cons rfl (sub_cons rfl (sub_cons rfl (sub_nil)))))))))), 0, by omega, fun j h => by omega, rfl, rfl⟩ ?_
   rintro n st ⟨k, hik, hall, hnk, rfl⟩
   have hkl : -100 ≤ (leftF wide (wq bs ((grpL hs bs).getD h [])) i).getD k 0 ∧ (leftF wide (wq bs ((grpL hs bs).getD h [])) i).getD k 0 ≤ 2000 := by
     by_cases hk : k < (leftF wide (wq bs ((grpL hs bs).getD h [])) i).length
     · exact hlb _ (getD_mem' (d := 0) hk)
     · rw [List.getD, List.getElem?_eq_none (by omega)]; simp
   have hgu : k < (leftF wide (wq bs ((grpL hs bs).getD h [])) i).length → (usedL wide (leftF wide (wq bs ((grpL hs bs).getD h [])) i)).getD k 0 = wide - (leftF wide (wq bs ((grpL hs bs).getD h [])) i).getD k 0 := fun hk => usedL_get hk
   have hpk : k < (leftF wide (wq bs ((grpL hs bs).getD h [])) i).length → (i64s (usedL wide (leftF wide (wq bs ((grpL hs bs).getD h [])) i)))[k]? = some [.val (.int .i64 (wide - (leftF wide (wq bs ((grpL hs bs).getD h [])) i).getD k 0))] := fun hk => by rw [i64s_get _ _ (by rw [hul]; exact hk), hgu hk]
   refine awp_seq ?_
   refine awp_seq ?_
   refine r1 T0_ok hP hm hN ?_
   iterate 2 refine g1 ?_
   refine g1 ?_ (hst := by simp +decide (disch := omega) only [nrm, lk_nrm, dc_nrm, mk_nrm, mf_nrm, ti_nrm, ls_nrm, mp_nrm, nb_nrm, hset, pick_and, pick_or, ↓reduceIte, Nat.reduceAdd, wI64, wI32, wI16, wI8, wU8, List.length_map, Int.toNat_natCast, xn1, xn2, hul]; rfl)
   iterate 2 refine g1 ?_
   iterate 2 refine gg1 ?_
   refine gg1 ?_ (hs := by intro hb; simp +decide only [hb, gd_tt, gd_ff, beq_self_eq_true, Bool.true_and, beq_true]; exact ⟨_, by first | rfl | exact astep_load_r (by rfl) (by rfl) (by exact i64s_get _ _ (by omega)) (by rfl) | exact astep_load_r (by rfl) (by rfl) (by first | exact bks_get _ _ (by omega) | exact pls_get _ _ (by omega) | exact ints_get _ _ _ (by omega) | exact boolD_get _ _ (by omega) | exact i64ss_get _ _ (by omega) | assumption) (by rfl) | exact astep_store_p (by rfl) (by rfl) (by rfl) (by rfl) (by exact i64s_get _ _ (by omega)), by simp only [decide_eq_true_eq] at hb; exact ⟨rfl, by omega, by simp only [List.length_map, hul]; omega⟩⟩)
   refine gg1 ?_ (hs := by intro hb; simp +decide only [hb, gd_tt, gd_ff, beq_self_eq_true, Bool.true_and, beq_true]; exact ⟨_, by first | rfl | exact astep_load_p (by rfl) (by rfl) (by rfl) (by exact hpk (by simp only [decide_eq_true_eq] at hb; omega)) (by rfl), by first | trivial | rfl | exact ⟨rfl, rfl⟩ | exact ⟨rfl, rfl, fun _ => rfl, Nat.le_of_ble_eq_true rfl, .inl rfl⟩ | exact ⟨rfl, rfl, fun h => (nomatch h), Nat.le_of_ble_eq_true rfl, .inl rfl⟩ | exact ⟨rfl, rfl, fun _ => rfl, Nat.le_of_ble_eq_true rfl, .inr rfl⟩ | exact ⟨rfl, rfl, fun h => (nomatch h), Nat.le_of_ble_eq_true rfl, .inr rfl⟩ | omega | exact ⟨rfl, by (repeat (first | exact fm_nil | refine fm_cons ⟨rfl, rfl⟩ ?_)), Nat.le_of_ble_eq_true rfl, Nat.le_of_ble_eq_true rfl⟩ | (refine ⟨?_, ?_, ?_, ?_, ?_, ?_, ?_⟩ <;> first | omega | exact Nat.le_of_ble_eq_true rfl) | exact ⟨rfl, by omega, by (try simp only [List.length_map, List.length_set]); omega⟩ | exact ⟨rfl, by omega, by simp only [Int.toNat_natCast]; omega, by omega, Nat.le_of_ble_eq_true rfl, rfl⟩⟩)
   iterate 4 refine gg1 ?_
   refine g1 ?_
   refine awp_cond rfl (fun hc2 => ?_) (fun hc2 => ?_)
   ·
    have hand : (decide ((k : Int) < ((leftF wide (wq bs ((grpL hs bs).getD h [])) i).length : Int)) && decide (wide - (leftF wide (wq bs ((grpL hs bs).getD h [])) i).getD k 0 + (bs.getD (((grpL hs bs).getD h []).getD i 0).toNat bk0).wide > wide)) = true := hc2
    simp only [Bool.and_eq_true, decide_eq_true_eq] at hand
    have hltk : k < (leftF wide (wq bs ((grpL hs bs).getD h [])) i).length := by omega
    have hnx : isHigh (bs.getD (((grpL hs bs).getD h []).getD i 0).toNat bk0).wide ((leftF wide (wq bs ((grpL hs bs).getD h [])) i).getD k 0) = false := by simp only [isHigh, decide_eq_false_iff_not]; omega
    refine awp_skip ?_
    refine awp_block ?_
    refine r1 T0_ok hP hm hN ?_
    iterate 3 refine g1 ?_
    refine ⟨(leftF wide (wq bs ((grpL hs bs).getD h [])) i).length - (k + 1), _, by omega, weak_sl (sub_cons rfl (sub_cons rfl (sub_cons rfl (sub_cons rfl (sub_cons rfl (sub_cons rfl (sub_cons rfl (sub_cons rfl (sub_cons rfl (sub_nil)))))))))), k + 1, by omega, upto_step hall hnx, rfl, rfl⟩
   ·
    have hand : (decide ((k : Int) < ((leftF wide (wq bs ((grpL hs bs).getD h [])) i).length : Int)) && decide (wide - (leftF wide (wq bs ((grpL hs bs).getD h [])) i).getD k 0 + (bs.getD (((grpL hs bs).getD h []).getD i 0).toNat bk0).wide > wide)) = false := hc2
    simp only [Bool.and_eq_false_iff, decide_eq_false_iff_not] at hand
    have hkk : fstOf (isHigh (bs.getD (((grpL hs bs).getD h []).getD i 0).toNat bk0).wide) (leftF wide (wq bs ((grpL hs bs).getD h [])) i) = (k : Int) := fst_at hik hall (by
      by_cases e : k = (leftF wide (wq bs ((grpL hs bs).getD h [])) i).length
      · exact .inl e
      · right; simp only [isHigh, decide_eq_true_eq]; omega)
    refine awp_exit ?_
    repeat refine thenA_exit ?_
    refine blockA_hit ?_
    refine awp_seq ?_
    refine awp_seq ?_
    refine r1 T0_ok hP hm hN ?_
    iterate 2 refine g1 ?_
    refine g1 ?_ (hst := by simp +decide (disch := omega) only [nrm, lk_nrm, dc_nrm, mk_nrm, mf_nrm, ti_nrm, ls_nrm, mp_nrm, nb_nrm, hset, pick_and, pick_or, ↓reduceIte, Nat.reduceAdd, wI64, wI32, wI16, wI8, wU8, List.length_map, Int.toNat_natCast, xn1, xn2, hul]; rfl)
    refine g1 ?_
    refine awp_cond rfl (fun hc3 => ?_) (fun hc3 => ?_)
    ·
     have hke : k = (leftF wide (wq bs ((grpL hs bs).getD h [])) i).length := by have h3 := hc3; simp only [beq_iff_eq] at h3; omega
     have hgn : (i64s (usedL wide ((leftF wide (wq bs ((grpL hs bs).getD h [])) i) ++ [wide])))[k]? = some [.val (.int .i64 0)] := by rw [i64s_get _ _ (by rw [usedL_len, List.length_append]; simp only [List.length_cons, List.length_nil]; omega), usedL_get (by rw [List.length_append]; simp only [List.length_cons, List.length_nil]; omega)]; simp [List.getD, hke]
     have hal : (usedL wide ((leftF wide (wq bs ((grpL hs bs).getD h [])) i) ++ [wide])).length = (leftF wide (wq bs ((grpL hs bs).getD h [])) i).length + 1 := by rw [usedL_len]; simp
     have hwz : 0 + (bs.getD (((grpL hs bs).getD h []).getD i 0).toNat bk0).wide = wide - (wide - (bs.getD (((grpL hs bs).getD h []).getD i 0).toNat bk0).wide) := by omega
     refine r1 T0_ok hP hm hN ?_
     iterate 2 refine g1 ?_
     refine ga1 ?_ (hst := by simp +decide (disch := omega) only [nrm, lk_nrm, dc_nrm, mk_nrm, mf_nrm, ti_nrm, ls_nrm, mp_nrm, nb_nrm, hset, pick_and, pick_or, ↓reduceIte, Nat.reduceAdd, wI64, wI32, wI16, wI8, wU8, List.length_map, Int.toNat_natCast, xn1, xn2, kl_nrm, i64s_snoc, usedL_snoc]; rfl)
     refine g1 ?_
     refine r1 T0_ok hP hm hN ?_
     iterate 3 refine g1 ?_
     refine g1 ?_ (hst := by simp +decide (disch := omega) only [nrm, lk_nrm, dc_nrm, mk_nrm, mf_nrm, ti_nrm, ls_nrm, mp_nrm, nb_nrm, hset, pick_and, pick_or, ↓reduceIte, Nat.reduceAdd, wI64, wI32, wI16, wI8, wU8, List.length_map, Int.toNat_natCast, xn1, xn2, hwz]; rfl)
     refine g1 ?_
     refine g1 ?_ (hst := by simp +decide (disch := omega) only [nrm, lk_nrm, dc_nrm, mk_nrm, mf_nrm, ti_nrm, ls_nrm, mp_nrm, nb_nrm, hset, pick_and, pick_or, ↓reduceIte, Nat.reduceAdd, wI64, wI32, wI16, wI8, wU8, List.length_map, Int.toNat_natCast, xn1, xn2, hwz]; rfl)
     iterate 2 refine g1 ?_
     refine r1 T0_ok hP hm hN ?_
     iterate 3 refine g1 ?_
     first
       | exact ⟨((grpL hs bs).getD h []).length - (i + 1), _, by omega, (by rw [leftF, lstep_yes hkk hke, ← usedL_set]; exact Weak.trans (weak_drop 3) (Weak.trans (weak_nx (nx' := 3) (by omega) (by rfl)) (weak_sl (sub_cons rfl (sub_cons rfl (sub_cons rfl (sub_cons rfl (sub_cons rfl (sub_cons rfl (sub_cons rfl (sub_nil))))))))))), i + 1, by omega, rfl, rfl⟩
       | exact ⟨((grpL hs bs).getD h []).length - (i + 1), _, by omega, (by rw [leftF, lstep_no hkk hke, ← usedL_set]; exact weak_sl (sub_cons rfl (sub_cons rfl (sub_cons rfl (sub_cons rfl (sub_cons rfl (sub_cons rfl (sub_cons rfl (sub_nil))))))))), i + 1, by omega, rfl, rfl⟩
    ·
     have hke : k ≠ (leftF wide (wq bs ((grpL hs bs).getD h [])) i).length := by have h3 := hc3; simp only [beq_eq_false_iff_ne, ne_eq] at h3; omega
     have hgn := hpk (by omega)
     have hwz : wide - (leftF wide (wq bs ((grpL hs bs).getD h [])) i).getD k 0 + (bs.getD (((grpL hs bs).getD h []).getD i 0).toNat bk0).wide = wide - ((leftF wide (wq bs ((grpL hs bs).getD h [])) i).getD k 0 - (bs.getD (((grpL hs bs).getD h []).getD i 0).toNat bk0).wide) := by omega
     refine awp_skip ?_
     refine r1 T0_ok hP hm hN ?_
     iterate 3 refine g1 ?_
     refine g1 ?_ (hst := by simp +decide (disch := omega) only [nrm, lk_nrm, dc_nrm, mk_nrm, mf_nrm, ti_nrm, ls_nrm, mp_nrm, nb_nrm, hset, pick_and, pick_or, ↓reduceIte, Nat.reduceAdd, wI64, wI32, wI16, wI8, wU8, List.length_map, Int.toNat_natCast, xn1, xn2, hwz]; rfl)
     refine g1 ?_
     refine g1 ?_ (hst := by simp +decide (disch := omega) only [nrm, lk_nrm, dc_nrm, mk_nrm, mf_nrm, ti_nrm, ls_nrm, mp_nrm, nb_nrm, hset, pick_and, pick_or, ↓reduceIte, Nat.reduceAdd, wI64, wI32, wI16, wI8, wU8, List.length_map, Int.toNat_natCast, xn1, xn2, hwz]; rfl)
     iterate 2 refine g1 ?_
     refine r1 T0_ok hP hm hN ?_
     iterate 3 refine g1 ?_
     first
       | exact ⟨((grpL hs bs).getD h []).length - (i + 1), _, by omega, (by rw [leftF, lstep_yes hkk hke, ← usedL_set]; exact Weak.trans (weak_drop 3) (Weak.trans (weak_nx (nx' := 3) (by omega) (by rfl)) (weak_sl (sub_cons rfl (sub_cons rfl (sub_cons rfl (sub_cons rfl (sub_cons rfl (sub_cons rfl (sub_cons rfl (sub_nil))))))))))), i + 1, by omega, rfl, rfl⟩
       | exact ⟨((grpL hs bs).getD h []).length - (i + 1), _, by omega, (by rw [leftF, lstep_no hkk hke, ← usedL_set]; exact weak_sl (sub_cons rfl (sub_cons rfl (sub_cons rfl (sub_cons rfl (sub_cons rfl (sub_cons rfl (sub_cons rfl (sub_nil))))))))), i + 1, by omega, rfl, rfl⟩
  ·
   have hgei : ¬ i < ((grpL hs bs).getD h []).length := by simpa using hc1
   have heqi : i = ((grpL hs bs).getD h []).length := by omega
   subst heqi
   refine awp_exit ?_
   repeat refine thenA_exit ?_
   refine blockA_hit ?_
   refine r1 T0_ok hP hm hN ?_
   iterate 2 refine g1 ?_
   refine g1 ?_ (hst := by simp +decide (disch := omega) only [nrm, lk_nrm, dc_nrm, mk_nrm, mf_nrm, ti_nrm, ls_nrm, mp_nrm, nb_nrm, hset, pick_and, pick_or, ↓reduceIte, Nat.reduceAdd, wI64, wI32, wI16, wI8, wU8, List.length_map, Int.toNat_natCast, xn1, xn2, usedL_len]; rfl)
   refine g1 ?_
   refine ga1 ?_
   refine g1 ?_
   refine r1 T0_ok hP hm hN ?_
   iterate 3 refine g1 ?_
   refine ⟨(grpL hs bs).length - (h + 1), _, by omega, (by rw [mapF_succ (d := []) _ hlth, i64s_app]; exact Weak.trans (weak_drop 3) (Weak.trans (weak_drop 2) (Weak.trans (weak_nx (nx' := 2) (by omega) (by rfl)) (weak_sl (sub_cons rfl (sub_cons rfl (sub_cons rfl (sub_cons rfl (sub_cons rfl (sub_nil)))))))))), h + 1, by omega, rfl, rfl⟩
 ·
  have hgeh : ¬ h < (grpL hs bs).length := by simpa using hc0
  have heqh : h = (grpL hs bs).length := by omega
  rw [heqh, mapF_all]
  refine awp_exit ?_
  repeat refine thenA_exit ?_
  refine blockA_hit ?_
  refine awp_seq ?_
  refine r1 T0_ok hP hm hN ?_
  iterate 2 refine g1 ?_
  refine awp_ret ?_
  refine fin_mk [1] rfl rfl ?_ (objs_cons rfl rfl rfl rfl rfl (.inl rfl) objs_nil) (by decide)
  rfl

noncomputable abbrev s_S_ShelvesNeeded : Spec ((Int × Int × Int) × List Int × List Bk × Int) where
  args := fun x => [pegs x.1, .sl 1 (i64s x.2.1), .sl 8 (bks x.2.2.1), .val (.int .i64 x.2.2.2)]
  pre := fun x => isPegs x.1 ∧ x.2.1.length ≤ 1048576 ∧ ((∀ b ∈ x.2.2.1, isBk b) ∧ x.2.2.1.length ≤ 1048576) ∧ -9223372036854775808 ≤ x.2.2.2 ∧ x.2.2.2 ≤ 9223372036854775807
  new := fun x => [⟨2, 1, false, i64s ((shelO nedI x.1.1 x.1.2.1 x.1.2.2 x.2.1 x.2.2.1 x.2.2.2).1)⟩]
  res := fun x => .tup [.own 0, .val (.int .i64 (shelO nedI x.1.1 x.1.2.1 x.1.2.2 x.2.1 x.2.2.1 x.2.2.2).2)]

set_option maxRecDepth 20000 in
set_option maxHeartbeats 8000000 in
theorem ok_S_ShelvesNeeded : FnOk Pr 21 s_S_ShelvesNeeded := by
 refine fn_ok 4 0 T0_ok Go.Proofs.Tryz.func21 rfl (enters_of Go.Proofs.Tryz.func21 rfl rfl) (fun _ => rfl) (fun _ => rfl) (fun _ => rfl) ?_
 rintro ⟨⟨a, b, c⟩, hs, bs, wide⟩ ⟨hp, hhl, ⟨hv, hl⟩, hw1, hw2⟩ C hP hN hm hG
 change awp C _ _ ⟨[(0, .val (.agg #[.int .i16 a, .int .i16 b, .int .i16 c])), (1, .sl 1 (i64s hs)), (2, .sl 8 (bks bs)), (3, .val (.int .i64 wide))], [], 0⟩
 simp only at hhl hv hl hw1 hw2
 refine awp_seq ?_
 refine r1 T0_ok hP hm hN ?_
 iterate 3 refine g1 ?_
 refine awp_seq ?_
 refine awp_seq ?_
 refine r1 T0_ok hP hm hN ?_
 iterate 4 refine g1 ?_
 refine gc1 ?_ (call1 ok_S_l04Shelved ((_, _, _), _, _, _) [] (hpre := by (try dsimp only); exact ⟨hp, by omega, ⟨hv, by omega⟩, by omega, by omega⟩))
 refine g1 ?_
 refine awp_seq ?_
 refine r1 T0_ok hP hm hN ?_
 iterate 2 refine g1 ?_
 refine awp_cond rfl (fun hc0 => ?_) (fun hc0 => ?_)
 ·
  have hr := shelO_bad (g := nedI) (rfl : codeS a b c hs bs wide = codeS a b c hs bs wide) (by simpa using hc0)
  refine awp_seq ?_
  refine r1 T0_ok hP hm hN ?_
  refine g1 ?_ (hst := by simp +decide (disch := omega) only [nrm, lk_nrm, dc_nrm, mk_nrm, mf_nrm, ti_nrm, ls_nrm, mp_nrm, nb_nrm, hset, pick_and, pick_or, ↓reduceIte, Nat.reduceAdd, wI64, wI32, wI16, wI8, wU8, List.length_map, Int.toNat_natCast, xn1, xn2, List.all_nil, Bool.not_true]; rfl)
  iterate 3 refine g1 ?_
  refine awp_ret ?_
  refine fin_mk [1] rfl rfl ?_ (by first | (simp only [hr]; exact objs_cons rfl rfl rfl rfl rfl (.inl rfl) objs_nil) | (simp only [hr]; exact objs_cons rfl rfl rfl rfl rfl (.inl rfl) objs_nil)) (by decide)
  show D.tup [_, .val (.int .i64 (shelO nedI a b c hs bs wide).2)] = _
  rw [hr]
  rfl
 ·
  have hok := codeS_ok hc0
  have hpg := preG_of hv hok.1
  have hr := shelO_good (g := nedI) (show codeS a b c hs bs wide = 0 by simpa using hc0)
  refine awp_skip ?_
  refine awp_seq ?_
  refine r1 T0_ok hP hm hN ?_
  iterate 3 refine g1 ?_
  refine gc1 ?_ (call1 ok_S_l04Needed (_, _, _) [] (hpre := by (try dsimp only); exact ⟨hpg, hok.2.1⟩))
  iterate 2 refine g1 ?_
  refine awp_ret ?_
  refine fin_mk [1] rfl rfl ?_ (by first | (simp only [hr]; exact objs_cons rfl rfl rfl rfl rfl (.inl rfl) objs_nil) | (simp only [hr]; exact objs_cons rfl rfl rfl rfl rfl (.inl rfl) objs_nil)) (by decide)
  show D.tup [_, .val (.int .i64 (shelO nedI a b c hs bs wide).2)] = _
  rw [hr]
  rfl

end Go.Proofs.YtheoapoddmmahaaGreat.Abs

