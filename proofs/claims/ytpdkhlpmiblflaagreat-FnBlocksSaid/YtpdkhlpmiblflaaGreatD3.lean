import Derived.Test.YtpdkhlpmiblflaaGreatD2
set_option linter.unusedVariables false
set_option linter.unusedSimpArgs false
namespace Go.Proofs.YtpdkhlpmiblflaaGreat.Abs
open Go Go.RowKit
noncomputable abbrev s_slices_insertionSortOrdered_byte : Spec (List Int × Nat) where
  args := fun x => [.own 0, .val (.int .i64 0), .val (.int .i64 ((x.2 : Nat) : Int))]
  pre := fun x => x.2 = x.1.length ∧ isU x.1 ∧ x.1.length ≤ 6
  obs := fun x => [⟨mkTy, 1, false, ints .u8 x.1⟩]
  out := fun x => [⟨mkTy, 1, false, ints .u8 (sortI x.1)⟩]
  res := fun x => .tup []

set_option maxRecDepth 20000 in
set_option maxHeartbeats 8000000 in
theorem ok_slices_insertionSortOrdered_byte : FnOk Pr 91 s_slices_insertionSortOrdered_byte := by
 refine fn_ok 3 1 T0_ok Go.Proofs.Tryz.func91 rfl (enters_of Go.Proofs.Tryz.func91 rfl rfl) (fun _ => rfl) (fun _ => rfl) (fun _ => rfl) ?_
 rintro ⟨xs, b⟩ ⟨hb, hU, hl⟩ C hP hN hm hG
 change awp C _ _ ⟨[(0, .own 0), (1, .val (.int .i64 0)), (2, .val (.int .i64 ((b : Nat) : Int)))], [(0, ⟨mkTy, 1, false, ints .u8 xs⟩)], 1⟩
 simp only at hb hU hl
 have xn1 := And.intro @ints_set (And.intro @tn1 (And.intro @natadd1 (@natsub1)))
 refine awp_seq ?_
 refine r1 T0_ok hP hm hN ?_
 iterate 3 refine g1 ?_
 refine awp_block ?_
 refine awp_loop (fun n st => ∃ (i : Nat) (ys : List Int), 1 ≤ i ∧ (i ≤ b ∨ i = 1) ∧ ys.Perm xs ∧ UpI ys i ∧ n = b - i ∧ st = ⟨[(6, .val (.int .i64 ((i : Nat) : Int))), (0, .own 0), (1, .val (.int .i64 0)), (2, .val (.int .i64 ((b : Nat) : Int)))], [(0, ⟨mkTy, 1, false, ints .u8 ys⟩)], 1⟩) (b - 1) ⟨_, weak_sl (sub_cons rfl (sub_cons rfl (sub_cons rfl (sub_cons rfl (sub_nil))))), 1, xs, Nat.le_refl _, .inr rfl, .refl _, fun p q a1 a2 => by omega, rfl, rfl⟩ ?_
 rintro n st ⟨i, ys, hi1, hi2, hsg, hsd, hn, rfl⟩
 have hyl := hsg.length_eq
 refine awp_seq ?_
 refine awp_seq ?_
 refine r1 T0_ok hP hm hN ?_
 iterate 3 refine g1 ?_
 refine awp_cond rfl (fun hc0 => ?_) (fun hc0 => ?_)
 ·
  have hlti : i < b := by simpa using hc0
  refine awp_skip ?_
  refine awp_seq ?_
  refine awp_block ?_
  refine awp_seq ?_
  refine r1 T0_ok hP hm hN ?_
  iterate 2 refine g1 ?_
  refine awp_block ?_
  refine awp_loop (fun n st => ∃ (j : Nat) (zs : List Int), j ≤ i ∧ BubL ys zs i j ∧ zs.Perm ys ∧ (∀ p, j ≤ p → p < i → ys.getD i 0 < ys.getD p 0) ∧ n = j ∧ st = ⟨[(7, .val (.int .i64 ((j : Nat) : Int))), (6, .val (.int .i64 ((i : Nat) : Int))), (0, .own 0), (1, .val (.int .i64 0)), (2, .val (.int .i64 ((b : Nat) : Int)))], [(0, ⟨mkTy, 1, false, ints .u8 zs⟩)], 1⟩) i ⟨_, weak_sl (sub_cons rfl (sub_cons rfl (sub_cons rfl (sub_cons rfl (sub_cons rfl (sub_nil)))))), i, ys, Nat.le_refl _, bubL_0 ys i, .refl _, fun p h1 h2 => by omega, rfl, rfl⟩ ?_
  rintro n st ⟨j, zs, hji, hz, hzp, hgt, hn2, rfl⟩
  have hzl := hzp.length_eq
  have hrz : isU zs := (hU.perm hsg).perm hzp
  have hzj : zs.getD j 0 = ys.getD i 0 := by rw [hz j, if_pos rfl]
  have hzj1 : zs.getD (j - 1) 0 = ys.getD (j - 1) 0 ∨ j = 0 := by
    rcases Nat.eq_zero_or_pos j with h | h
    · exact .inr h
    · left; rw [hz (j - 1), if_neg (by omega), if_neg (by omega)]
  refine awp_seq ?_
  refine awp_seq ?_
  refine awp_draw T0_ok hP hm hN Pr_mix [0, 1, 2, 3, 4, 5, 6, 7, 8, 9, 10, 11] [13] _ rfl (by rfl) ?_
  iterate 4 refine d1 T0_ok ?_
  iterate 2 refine dg1 T0_ok ?_
  refine dg1 T0_ok ?_ (hs := by intro hb; simp +decide only [hb, gd_tt, gd_ff, beq_self_eq_true, Bool.true_and, beq_true]; exact ⟨_, by first | rfl | exact astep_load_r (by rfl) (by rfl) (by exact i64s_get _ _ (by omega)) (by rfl) | exact astep_load_r (by rfl) (by rfl) (by first | exact bks_get _ _ (by omega) | exact pls_get _ _ (by omega) | exact ints_get _ _ _ (by omega) | exact boolD_get _ _ (by omega) | exact i64ss_get _ _ (by omega) | assumption) (by rfl) | exact astep_store_p (by rfl) (by rfl) (by rfl) (by rfl) (by exact i64s_get _ _ (by omega)), by exact ⟨rfl, by omega, by (try simp only [List.length_map]); omega⟩⟩)
  iterate 4 refine dg1 T0_ok ?_
  refine dg1 T0_ok ?_ (hs := by intro hb; simp +decide only [hb, gd_tt, gd_ff, beq_self_eq_true, Bool.true_and, beq_true]; exact ⟨_, by first | rfl | exact astep_load_r (by rfl) (by rfl) (by exact i64s_get _ _ (by omega)) (by rfl) | exact astep_load_r (by rfl) (by rfl) (by first | exact bks_get _ _ (by omega) | exact pls_get _ _ (by omega) | exact ints_get _ _ _ (by omega) | exact boolD_get _ _ (by omega) | exact i64ss_get _ _ (by omega) | assumption) (by rfl) | exact astep_store_p (by rfl) (by rfl) (by rfl) (by rfl) (by exact i64s_get _ _ (by omega)), by exact ⟨rfl, (by simp at hb; omega), by (try simp only [List.length_map]); omega⟩⟩)
  refine dg1 T0_ok ?_
  refine dgp1 ?_ (hr := by intro hb; simp +decide only [hb, gd_tt, gd_ff, beq_self_eq_true, Bool.true_and, beq_true]; exact ⟨_, call1 ok_cmp_Less_byte (_, _) [], rfl, rfl, rfl⟩)
  refine d1 T0_ok ?_
  refine dreg_nil ?_
  refine awp_cond rfl (fun hc1 => ?_) (fun hc1 => ?_)
  ·
   simp only [Bool.and_eq_true, decide_eq_true_eq] at hc1
   have hjp : 0 < j := by omega
   have hcj : ys.getD i 0 < ys.getD (j - 1) 0 := by
     have h := hc1.2
     rw [hzj, hzj1.resolve_right (by omega)] at h
     exact h
   have hsw : swp zs j (j - 1) = (zs.set j (zs.getD (j - 1) 0)).set (j - 1) (zs.getD j 0) := rfl
   have hb2 : BubL ys (swp zs j (j - 1)) i (j - 1) := by
     obtain ⟨j', rfl⟩ : ∃ j', j = j' + 1 := ⟨j - 1, by omega⟩
     exact bubL_step hz hji (by omega)
   have hgt2 : ∀ p, j - 1 ≤ p → p < i → ys.getD i 0 < ys.getD p 0 := fun p h1 h2 => by
     by_cases e : p = j - 1
     · rw [e]; exact hcj
     · exact hgt p (by omega) h2
   refine awp_skip ?_
   refine awp_seq ?_
   refine awp_block ?_
   refine awp_draw T0_ok hP hm hN Pr_mix [] [15, 16, 17] _ rfl (by rfl) ?_
   iterate 8 refine d1 T0_ok ?_
   refine dx1 T0_ok ?_
   refine dx1 T0_ok ?_
   iterate 2 refine d1 T0_ok ?_
   refine dx1 T0_ok ?_
   refine dx1 T0_ok ?_
   refine dx1 T0_ok ?_
   refine dp1 ?_ (oprel_astep T0_ok (by first | rfl | exact astep_load_p (by rfl) (by rfl) (by rfl) (by exact ints_get _ _ _ (by omega)) (by rfl) | exact astep_store_p (by rfl) (by rfl) (by rfl) (by rfl) (by exact ints_get _ _ _ (by first | omega | (simp only [List.length_set]; omega)))) rfl (by first | trivial | rfl | exact ⟨rfl, rfl⟩ | exact ⟨rfl, rfl, fun _ => rfl, Nat.le_of_ble_eq_true rfl, .inl rfl⟩ | exact ⟨rfl, rfl, fun h => (nomatch h), Nat.le_of_ble_eq_true rfl, .inl rfl⟩ | exact ⟨rfl, rfl, fun _ => rfl, Nat.le_of_ble_eq_true rfl, .inr rfl⟩ | exact ⟨rfl, rfl, fun h => (nomatch h), Nat.le_of_ble_eq_true rfl, .inr rfl⟩ | omega | exact ⟨rfl, by (repeat (first | exact fm_nil | refine fm_cons ⟨rfl, rfl⟩ ?_)), Nat.le_of_ble_eq_true rfl, Nat.le_of_ble_eq_true rfl⟩ | (refine ⟨?_, ?_, ?_, ?_, ?_, ?_, ?_⟩ <;> first | omega | exact Nat.le_of_ble_eq_true rfl) | exact ⟨rfl, by omega, by (try simp only [List.length_map, List.length_set]); omega⟩ | exact ⟨rfl, by omega, by simp only [Int.toNat_natCast]; omega, by omega, Nat.le_of_ble_eq_true rfl, rfl⟩))
   refine dp1 ?_ (oprel_astep T0_ok (by first | rfl | exact astep_load_p (by rfl) (by rfl) (by rfl) (by exact ints_get _ _ _ (by omega)) (by rfl) | exact astep_store_p (by rfl) (by rfl) (by rfl) (by rfl) (by exact ints_get _ _ _ (by first | omega | (simp only [List.length_set]; omega)))) rfl (by first | trivial | rfl | exact ⟨rfl, rfl⟩ | exact ⟨rfl, rfl, fun _ => rfl, Nat.le_of_ble_eq_true rfl, .inl rfl⟩ | exact ⟨rfl, rfl, fun h => (nomatch h), Nat.le_of_ble_eq_true rfl, .inl rfl⟩ | exact ⟨rfl, rfl, fun _ => rfl, Nat.le_of_ble_eq_true rfl, .inr rfl⟩ | exact ⟨rfl, rfl, fun h => (nomatch h), Nat.le_of_ble_eq_true rfl, .inr rfl⟩ | omega | exact ⟨rfl, by (repeat (first | exact fm_nil | refine fm_cons ⟨rfl, rfl⟩ ?_)), Nat.le_of_ble_eq_true rfl, Nat.le_of_ble_eq_true rfl⟩ | (refine ⟨?_, ?_, ?_, ?_, ?_, ?_, ?_⟩ <;> first | omega | exact Nat.le_of_ble_eq_true rfl) | exact ⟨rfl, by omega, by (try simp only [List.length_map, List.length_set]); omega⟩ | exact ⟨rfl, by omega, by simp only [Int.toNat_natCast]; omega, by omega, Nat.le_of_ble_eq_true rfl, rfl⟩))
   refine dp1 ?_ (oprel_astep T0_ok (by first | rfl | exact astep_load_p (by rfl) (by rfl) (by rfl) (by exact ints_get _ _ _ (by omega)) (by rfl) | exact astep_store_p (by rfl) (by rfl) (by rfl) (by rfl) (by exact ints_get _ _ _ (by first | omega | (simp only [List.length_set]; omega)))) rfl (by first | trivial | rfl | exact ⟨rfl, rfl⟩ | exact ⟨rfl, rfl, fun _ => rfl, Nat.le_of_ble_eq_true rfl, .inl rfl⟩ | exact ⟨rfl, rfl, fun h => (nomatch h), Nat.le_of_ble_eq_true rfl, .inl rfl⟩ | exact ⟨rfl, rfl, fun _ => rfl, Nat.le_of_ble_eq_true rfl, .inr rfl⟩ | exact ⟨rfl, rfl, fun h => (nomatch h), Nat.le_of_ble_eq_true rfl, .inr rfl⟩ | omega | exact ⟨rfl, by (repeat (first | exact fm_nil | refine fm_cons ⟨rfl, rfl⟩ ?_)), Nat.le_of_ble_eq_true rfl, Nat.le_of_ble_eq_true rfl⟩ | (refine ⟨?_, ?_, ?_, ?_, ?_, ?_, ?_⟩ <;> first | omega | exact Nat.le_of_ble_eq_true rfl) | exact ⟨rfl, by omega, by (try simp only [List.length_map, List.length_set]); omega⟩ | exact ⟨rfl, by omega, by simp only [Int.toNat_natCast]; omega, by omega, Nat.le_of_ble_eq_true rfl, rfl⟩))
   refine dreg_nil ?_
   refine r1 T0_ok hP hm hN ?_
   iterate 3 refine g1 ?_
   refine ⟨j - 1, _, by omega, (by rw [← hsw]; exact weak_sl (sub_cons rfl (sub_cons rfl (sub_cons rfl (sub_cons rfl (sub_cons rfl (sub_nil))))))), j - 1, swp zs j (j - 1), by omega, hb2, (swp_perm (by omega) (by omega)).trans hzp, hgt2, rfl, rfl⟩
  ·
   have hstop : j = 0 ∨ ys.getD (j - 1) 0 ≤ ys.getD i 0 := by
     rcases Nat.eq_zero_or_pos j with h | h
     · exact .inl h
     · right
       rw [← hzj, ← hzj1.resolve_right (by omega)]
       have : decide ((j : Int) > 0) = true := by simp; omega
       rw [this, Bool.true_and] at hc1
       simp only [decide_eq_false_iff_not] at hc1
       omega
   refine awp_exit ?_
   repeat refine thenA_exit ?_
   refine blockA_hit ?_
   refine r1 T0_ok hP hm hN ?_
   iterate 3 refine g1 ?_
   refine ⟨b - (i + 1), _, by omega, weak_sl (sub_cons rfl (sub_cons rfl (sub_cons rfl (sub_cons rfl (sub_nil))))), i + 1, zs, by omega, .inl (by omega), hzp.trans hsg, upI_ins hsd hz hji hgt hstop, rfl, rfl⟩
 ·
  have hgei : ¬ i < b := by simpa using hc0
  have hfin : sortI xs = ys := sortI_eq hsg (hsd.all (by omega))
  refine awp_exit ?_
  repeat refine thenA_exit ?_
  refine blockA_hit ?_
  refine fin_mk [] rfl rfl ?_ (by simp only [hfin]; exact objs_cons rfl rfl rfl rfl rfl (.inl rfl) objs_nil) (by decide)
  rfl

noncomputable abbrev s_slices_pdqsortOrdered_byte : Spec (List Int × Nat × Int) where
  args := fun x => [.own 0, .val (.int .i64 0), .val (.int .i64 ((x.2.1 : Nat) : Int)), .val (.int .i64 x.2.2)]
  pre := fun x => x.2.1 = x.1.length ∧ isU x.1 ∧ x.1.length ≤ 6
  obs := fun x => [⟨mkTy, 1, false, ints .u8 x.1⟩]
  out := fun x => [⟨mkTy, 1, false, ints .u8 (sortI x.1)⟩]
  res := fun x => .tup []

set_option maxRecDepth 20000 in
set_option maxHeartbeats 1000000 in
theorem ok_slices_pdqsortOrdered_byte : FnOk Pr 74 s_slices_pdqsortOrdered_byte := by
 refine fn_ok 4 1 T0_ok Go.Proofs.Tryz.func74 rfl (enters_of Go.Proofs.Tryz.func74 rfl rfl) (fun _ => rfl) (fun _ => rfl) (fun _ => rfl) ?_
 rintro ⟨xs, b, lim⟩ ⟨hb, hU, hl⟩ C hP hN hm hG
 change awp C _ _ ⟨[(0, .own 0), (1, .val (.int .i64 0)), (2, .val (.int .i64 ((b : Nat) : Int))), (3, .val (.int .i64 lim))], [(0, ⟨mkTy, 1, false, ints .u8 xs⟩)], 1⟩
 simp only at hb hU hl
 refine awp_seq ?_
 refine r1 T0_ok hP hm hN ?_
 refine g1 ?_
 refine awp_seq ?_
 refine r1 T0_ok hP hm hN ?_
 refine g1 ?_
 refine awp_block ?_
 refine awp_loop (fun n st => n = 1 ∧ st = ⟨[(0, .own 0), (1, .val (.int .i64 0)), (2, .val (.int .i64 ((b : Nat) : Int)))], [(0, ⟨mkTy, 1, false, ints .u8 xs⟩)], 1⟩) 1 ⟨_, weak_sl (sub_cons rfl (sub_cons rfl (sub_cons rfl (sub_nil)))), rfl, rfl⟩ ?_
 rintro n st ⟨-, rfl⟩
 refine awp_block ?_
 refine awp_seq ?_
 refine r1 T0_ok hP hm hN ?_
 iterate 4 refine g1 ?_
 refine awp_seq ?_
 refine awp_seq ?_
 refine r1 T0_ok hP hm hN ?_
 iterate 2 refine g1 ?_
 refine awp_cond rfl (fun hc0 => ?_) (fun hc0 => ?_)
 ·
  refine awp_seq ?_
  refine r1 T0_ok hP hm hN ?_
  iterate 3 refine g1 ?_
  refine gc1 ?_ (call1 ok_slices_insertionSortOrdered_byte (xs, _) [0] (hargs := (by (try dsimp only); exact args_cons (arga_own rfl) (args_cons arga_val (args_cons arga_val args_nil)))) (hpre := by (try dsimp only); exact ⟨hb, hU, hl⟩) (hfo := by exact fm_cons (flat_ints _ _ _ _ _) fm_nil))
  refine awp_ret ?_
  refine fin_mk [] rfl rfl ?_ (objs_cons rfl rfl rfl rfl rfl (.inl rfl) objs_nil) (by decide)
  rfl
 ·
  exfalso
  have h := hc0
  simp at h
  omega

noncomputable abbrev s_slices_Sort_byte_byte : Spec (List Int) where
  args := fun xs => [.own 0]
  pre := fun xs => isU xs ∧ xs.length ≤ 6
  obs := fun xs => [⟨mkTy, 1, false, ints .u8 xs⟩]
  out := fun xs => [⟨mkTy, 1, false, ints .u8 (sortI xs)⟩]
  res := fun x => .tup []

set_option maxRecDepth 20000 in
set_option maxHeartbeats 1000000 in
theorem ok_slices_Sort_byte_byte : FnOk Pr 49 s_slices_Sort_byte_byte := by
 refine fn_ok 1 1 T0_ok Go.Proofs.Tryz.func49 rfl (enters_of Go.Proofs.Tryz.func49 rfl rfl) (fun _ => rfl) (fun _ => rfl) (fun _ => rfl) ?_
 rintro xs ⟨hU, hl⟩ C hP hN hm hG
 change awp C _ _ ⟨[(0, .own 0)], [(0, ⟨mkTy, 1, false, ints .u8 xs⟩)], 1⟩
 have hw : IntKind.u64.wrap ((xs.length : Nat) : Int) = (xs.length : Nat) := wU64 (by omega) (by omega)
 have xn1 := hw
 refine awp_seq ?_
 refine r1 T0_ok hP hm hN ?_
 iterate 3 refine g1 ?_
 refine r1 T0_ok hP hm hN ?_
 iterate 4 refine g1 ?_
 refine gc1 ?_ (call1 ok_math_bits_Len _ [] (hpre := by (try dsimp only); exact ⟨by omega, by omega⟩))
 refine gc1 ?_ (call1 ok_slices_pdqsortOrdered_byte (xs, _, _) [0] (hargs := (by (try dsimp only); exact args_cons (arga_own rfl) (args_cons arga_val (args_cons arga_val (args_cons arga_val args_nil))))) (hpre := by (try dsimp only); exact ⟨rfl, hU, hl⟩) (hfo := by exact fm_cons (flat_ints _ _ _ _ _) fm_nil))
 refine fin_mk [] rfl rfl ?_ (objs_cons rfl rfl rfl rfl rfl (.inl rfl) objs_nil) (by decide)
 rfl
end Go.Proofs.YtpdkhlpmiblflaaGreat.Abs

