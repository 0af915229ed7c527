import Derived.Test.YtpdkhlpmiblflaaGreatX0
set_option linter.unusedVariables false
set_option linter.unusedSimpArgs false
namespace Go.Proofs.YtpdkhlpmiblflaaGreat.Abs
open Go Go.RowKit
noncomputable abbrev s_I_distances : Spec Nd where
  args := fun x => [.val (.string (strOfNums (tx x)))]
  pre := fun x => x.length ≤ 6 ∧ okN x.length x
  res := fun x => .mp none (MapS Pr 9 3 (fM (endB x.length (sortI x)).2) 46656)

set_option maxRecDepth 20000 in
set_option maxHeartbeats 16000000 in
theorem ok_I_distances : FnOk Pr 24 s_I_distances := by
 refine fn_ok 1 0 T0_ok Go.Proofs.Tryz.func24 rfl (enters_of Go.Proofs.Tryz.func24 rfl rfl) (fun _ => rfl) (fun _ => rfl) (fun _ => rfl) ?_
 rintro x ⟨hk6, hokx⟩ C hP hN hm hG
 change awp C _ _ ⟨[(0, .val (.string (strOfNums (tx x))))], [], 0⟩
 have hx0l := tx_len x
 have hutx0 := isU_tx hokx
 have h0' := okN_sort hokx
 have hsl0 := sortI_len x
 obtain ⟨k0, hk0⟩ : ∃ k, x.length = k := ⟨_, rfl⟩
 rw [hk0] at hk6 hokx h0' hx0l hsl0
 obtain ⟨s0, hs0⟩ : ∃ s, sortI x = s := ⟨_, rfl⟩
 have h0 : okN k0 s0 := hs0 ▸ h0'
 have hLb := len_blks hk6
 refine awp_seq ?_
 refine r1 T0_ok hP hm hN ?_
 refine g1 ?_
 refine awp_seq ?_
 refine r1 T0_ok hP hm hN ?_
 refine g1 ?_
 refine gc1 ?_ (oprel_s2bO T0_ok rfl (tx x) rfl hutx0 (by omega) rfl rfl rfl)
 refine g1 ?_
 refine awp_seq ?_
 refine r1 T0_ok hP hm hN ?_
 refine g1 ?_
 refine gc1 ?_ (call1 ok_slices_Sort_byte_byte (tx x) [0] (hargs := (by (try dsimp only); exact args_cons (arga_own rfl) args_nil)) (hpre := by (try dsimp only); exact ⟨hutx0, by omega⟩) (hfo := by exact fm_cons (flat_ints _ _ _ _ _) fm_nil))
 refine awp_seq ?_
 refine awp_sreg rfl ?_
 refine sreg_makemap hP hN 9 3 (by decide) (fun mb hmw => ?_)
 refine sg1 T0_ok hP hm hN ?_
 refine sgc1 T0_ok hP hm hN ?_ (oprel_b2sA T0_ok rfl (tx (sortI x)) rfl rfl (by rw [← sort_tx]) rfl rfl rfl rfl)
 refine sreg_mapupd hP (.inr rfl) mpK mpT mpE rfl rfl rfl (by decide) (by decide) (by rw [strOfNums_size, tx_len, sortI_len]; simp only [maxLen]; omega) hmw (by simp [staysD]) ?_
 refine sreg_weak (st' := ⟨[(17, mpD mb (bfs (blks k0) s0 0).2 1), (0, .val (.string (strOfNums (tx x)))), (3, .own 0)], [(0, ⟨mkTy, 1, false, ints .u8 (sortI (tx x))⟩)], 1⟩) (by
   have hMq : (fun u => if u = strOfNums (tx (sortI x)) then some (0 : Int) else (none : Option Int)) = fM (bfs (blks k0) s0 0).2 := by rw [hs0]; exact fM_upd h0 (fun _ => none) 0
   refine weak_sl (sub_cons ?_ (sub_cons rfl (sub_cons rfl (sub_nil))))
   simp [lk, updM, mpD, ← hMq]) ?_
 refine sreg_rest T0_ok hP hm hN ?_
 iterate 2 refine g1 ?_
 refine awp_seq ?_
 refine r1 T0_ok hP hm hN ?_
 refine g1 ?_
 refine g1 ?_ (hst := by simp +decide (disch := omega) only [nrm, lk_nrm, dc_nrm, mk_nrm, mf_nrm, ti_nrm, ls_nrm, mp_nrm, nb_nrm, hset, pick_and, pick_or, ↓reduceIte, Nat.reduceAdd, wI64, wI32, wI16, wI8, wU8, List.length_map, Int.toNat_natCast, xn1, xn2, strOfNums_size, hx0l]; rfl)
 refine gc1 ?_ (call1 ok_I_blocks k0 [] (hpre := by (try dsimp only); exact hk6) (hfo := by exact fm_cons (flat_b3s _ _ _ _) fm_nil))
 refine g1 ?_
 refine awp_seq ?_
 refine awp_seq ?_
 refine r1 T0_ok hP hm hN ?_
 refine g1 ?_
 refine gc1 ?_ (oprel_b2sA T0_ok rfl (tx s0) rfl rfl (by rw [← hs0, ← sort_tx]) rfl rfl rfl rfl)
 iterate 2 refine g1 ?_
 refine awp_block ?_
 refine awp_weak (weak_own_vw (t := 6) (h := 2) rfl rfl) ?_
 have hB0 : (bfs (blks k0) s0 0).1 = [s0] := rfl
 refine awp_loop (fun n st => ∃ (at_ lo : Nat) (xs : List (List D)), at_ ≤ (bfs (blks k0) s0 at_).1.length ∧ (bfs (blks k0) s0 at_).1.length ≤ 46656 ∧ n = 46656 - at_ ∧ xs.drop lo = txs ((bfs (blks k0) s0 at_).1.drop at_) ∧ lo + ((bfs (blks k0) s0 at_).1.length - at_) = xs.length ∧ xs ≠ [] ∧ (∀ y ∈ xs, ∀ d ∈ y, staysD d = true) ∧ st = ⟨[(4, mpD mb (bfs (blks k0) s0 at_).2 (bfs (blks k0) s0 at_).1.length), (6, .vw 2 lo ((bfs (blks k0) s0 at_).1.length - at_)), (5, .own 1)], [(2, ⟨9, 1, false, xs⟩), (1, ⟨40, 3, false, b3s (blks k0)⟩)], 3⟩) 46656 ⟨⟨[(4, mpD mb (bfs (blks k0) s0 0).2 1), (6, .vw 2 0 1), (5, .own 1)], [(2, ⟨9, 1, false, txs [s0]⟩), (1, ⟨40, 3, false, b3s (blks k0)⟩)], 3⟩, ?_, 0, 0, txs [s0], Nat.zero_le _, (by rw [hB0]; simp), rfl, rfl, rfl, by simp, txs_stays _, rfl⟩ ?_
 · exact Weak.trans (weak_drop 0) (Weak.trans (weak_nx (nx' := 3) (by omega) (by rfl)) (weak_sl (sub_cons rfl (sub_cons rfl (sub_cons rfl (sub_nil))))))
 rintro n st ⟨at_, lo, xs, hat, hq, hni, hxs, hln, hne, hst, rfl⟩
 refine awp_seq ?_
 refine awp_seq ?_
 refine r1 T0_ok hP hm hN ?_
 iterate 3 refine g1 ?_
 refine awp_cond rfl (fun hc0 => ?_) (fun hc0 => ?_)
 ·
  have hatl : at_ < (bfs (blks k0) s0 at_).1.length := by simp at hc0; omega
  refine awp_skip ?_
  refine awp_seq ?_
  refine awp_block ?_
  refine awp_seq ?_
  refine r1 T0_ok hP hm hN ?_
  iterate 3 refine g1 ?_
  refine awp_block ?_
  obtain ⟨now, hnow⟩ : ∃ x, (bfs (blks k0) s0 at_).1.getD at_ [] = x := ⟨_, rfl⟩
  refine awp_loop (fun n st => ∃ (i lo : Nat) (xs : List (List D)), i ≤ (blks k0).length ∧ n = (blks k0).length - i ∧ at_ < (runB now (bfs (blks k0) s0 at_) ((blks k0).take i)).1.length ∧ (runB now (bfs (blks k0) s0 at_) ((blks k0).take i)).1.length ≤ 46656 ∧ xs.drop lo = txs ((runB now (bfs (blks k0) s0 at_) ((blks k0).take i)).1.drop at_) ∧ lo + ((runB now (bfs (blks k0) s0 at_) ((blks k0).take i)).1.length - at_) = xs.length ∧ xs ≠ [] ∧ (∀ y ∈ xs, ∀ d ∈ y, staysD d = true) ∧ st = ⟨[(34, .val (.int .i64 ((i : Nat) : Int))), (33, .val (.int .i64 (((blks k0).length : Nat) : Int))), (32, .own 1), (4, mpD mb (runB now (bfs (blks k0) s0 at_) ((blks k0).take i)).2 (runB now (bfs (blks k0) s0 at_) ((blks k0).take i)).1.length), (6, .vw 2 lo ((runB now (bfs (blks k0) s0 at_) ((blks k0).take i)).1.length - at_)), (5, .own 1)], [(2, ⟨9, 1, false, xs⟩), (1, ⟨40, 3, false, b3s (blks k0)⟩)], 3⟩) (blks k0).length ⟨_, weak_sl (sub_cons rfl (sub_cons rfl (sub_cons rfl (sub_cons rfl (sub_cons rfl (sub_cons rfl (sub_nil))))))), 0, lo, xs, Nat.zero_le _, rfl, hatl, hq, hxs, hln, hne, hst, rfl⟩ ?_
  clear hxs hln hne hst xs lo
  rintro n st ⟨i, lo, xs, hii, hni2, hatr, hqi, hxs, hln, hne, hst, rfl⟩
  refine awp_seq ?_
  refine r1 T0_ok hP hm hN ?_
  refine g1 ?_
  refine awp_seq ?_
  refine awp_cond rfl (fun hc1 => ?_) (fun hc1 => ?_)
  ·
   have hlti : i < (blks k0).length := by simpa using hc1
   obtain ⟨⟨f, c, t⟩, hbq⟩ : ∃ b, (blks k0).getD i (0, 0, 0) = b := ⟨_, rfl⟩
   have hbm : (f, c, t) ∈ blks k0 := by rw [← hbq]; exact getD_mem' hlti
   have hgb : (b3s (blks k0))[i]? = some (b3D (f, c, t)) := by rw [b3s_get _ _ hlti, hbq]
   have hR := roundP hk6 h0 (i := i) hatl hlti hbq hnow
   obtain ⟨hd1, hd2, hd3, hd4, hd5, hd6, hd7⟩ := hR
   have hx0 := txs_head hxs hd1
   have hmb := bmN_blks hd4.1 hbm
   have hmb1 : (bmN (tx now) ((f : Int), (c : Int), (t : Int))).1 = tx (mvN now (f, c, t)) := by rw [hmb]
   have hmb2 : (bmN (tx now) ((f : Int), (c : Int), (t : Int))).2 = true := by rw [hmb]
   have hb3 := mem_blks.1 hbm
   have hbk : isBlk ((f : Int), (c : Int), (t : Int)) := ⟨(show isI16 ((f : Nat) : Int) from ⟨by omega, by omega⟩), (show isI16 ((c : Nat) : Int) from ⟨by omega, by omega⟩), (show isI16 ((t : Nat) : Int) from ⟨by omega, by omega⟩)⟩
   have hnl := hd4.1
   have hutx := isU_tx hd4
   have htl := tx_len now
   have htl2 := tx_len (mvN now (f, c, t))
   have hnx := hd5.1
   have hss : (strOfNums (tx now)).size ≤ maxLen := by rw [strOfNums_size]; simp only [maxLen]; omega
   have hss2 : (strOfNums (tx (mvN now (f, c, t)))).size ≤ maxLen := by rw [strOfNums_size]; simp only [maxLen]; omega
   have hRs := runB_take (now := now) (s := bfs (blks k0) s0 at_) hlti
   rw [hbq] at hRs
   have hfs : (fM (runB now (bfs (blks k0) s0 at_) ((blks k0).take i)).2 (strOfNums (tx (mvN now (f, c, t))))).isSome = ((runB now (bfs (blks k0) s0 at_) ((blks k0).take i)).2 (mvN now (f, c, t))).isSome := by rw [fM_at hd5]; simp
   have hfn : (fM (runB now (bfs (blks k0) s0 at_) ((blks k0).take i)).2 (strOfNums (tx now))).getD 0 = ((((runB now (bfs (blks k0) s0 at_) ((blks k0).take i)).2 now).getD 0 : Nat) : Int) := by rw [fM_at hd4, hd6]; rfl
   obtain ⟨R, hRq⟩ : ∃ r, runB now (bfs (blks k0) s0 at_) ((blks k0).take i) = r := ⟨_, rfl⟩
   rw [hRq] at hd1 hd2 hd3 hd6 hd7 hRs hfs hfn hxs hln hatr hqi ⊢
   refine awp_skip ?_
   refine awp_seq ?_
   refine awp_block ?_
   refine awp_seq ?_
   refine r1 T0_ok hP hm hN ?_
   iterate 4 refine g1 ?_
   refine awp_seq ?_
   refine awp_draw T0_ok hP hm hN Pr_mix [0, 1, 2, 3, 4, 5, 6, 7, 8, 9, 10, 11] [3, 5] _ rfl (by rfl) ?_
   refine d1 T0_ok ?_
   refine d1 T0_ok ?_ (hdn := by simp +decide (disch := omega) only [nrm, lk_nrm, dc_nrm, mk_nrm, mf_nrm, ti_nrm, ls_nrm, mp_nrm, nb_nrm, hset, pick_and, pick_or, ↓reduceIte, Nat.reduceAdd, wI64, wI32, wI16, wI8, wU8, List.length_map, Int.toNat_natCast, xn1, xn2, mask_nrm, Int.toNat_zero, Nat.add_zero]; rfl) (hsl := by simp +decide (disch := omega) only [nrm, lk_nrm, dc_nrm, mk_nrm, mf_nrm, ti_nrm, ls_nrm, mp_nrm, nb_nrm, hset, pick_and, pick_or, ↓reduceIte, Nat.reduceAdd, wI64, wI32, wI16, wI8, wU8, List.length_map, Int.toNat_natCast, xn1, xn2, mask_nrm, Int.toNat_zero, Nat.add_zero]; rfl)
   refine d1 T0_ok ?_
   refine dp1 ?_ (oprel_s2b T0_ok rfl (tx now) rfl hutx (by omega) rfl rfl rfl)
   refine d1 T0_ok ?_
   refine dp1 ?_ (call1 ok_I_blockMoved_byte (tx now, ((f : Int), (c : Int), (t : Int))) [] (hpre := by (try dsimp only); exact ⟨by omega, hbk⟩) (hfo := by exact fm_cons (flat_ints _ _ _ _ _) fm_nil)) (hdn := by simp +decide (disch := omega) only [nrm, lk_nrm, dc_nrm, mk_nrm, mf_nrm, ti_nrm, ls_nrm, mp_nrm, nb_nrm, hset, pick_and, pick_or, ↓reduceIte, Nat.reduceAdd, wI64, wI32, wI16, wI8, wU8, List.length_map, Int.toNat_natCast, xn1, xn2, mask_nrm, hmb1, hmb2]; rfl) (hhp := by simp +decide (disch := omega) only [nrm, lk_nrm, dc_nrm, mk_nrm, mf_nrm, ti_nrm, ls_nrm, mp_nrm, nb_nrm, hset, pick_and, pick_or, ↓reduceIte, Nat.reduceAdd, wI64, wI32, wI16, wI8, wU8, List.length_map, Int.toNat_natCast, xn1, xn2, mask_nrm, hmb1, hmb2]; try rfl) (hnx := by simp +decide (disch := omega) only [nrm, lk_nrm, dc_nrm, mk_nrm, mf_nrm, ti_nrm, ls_nrm, mp_nrm, nb_nrm, hset, pick_and, pick_or, ↓reduceIte, Nat.reduceAdd, wI64, wI32, wI16, wI8, wU8, List.length_map, Int.toNat_natCast, xn1, xn2, mask_nrm, hmb1, hmb2]; try rfl) (hsl := by simp +decide (disch := omega) only [nrm, lk_nrm, dc_nrm, mk_nrm, mf_nrm, ti_nrm, ls_nrm, mp_nrm, nb_nrm, hset, pick_and, pick_or, ↓reduceIte, Nat.reduceAdd, wI64, wI32, wI16, wI8, wU8, List.length_map, Int.toNat_natCast, xn1, xn2, mask_nrm, hmb1, hmb2]; rfl)
   iterate 5 refine d1 T0_ok ?_
   refine dreg_nil ?_
   refine awp_seq ?_
   refine r1 T0_ok hP hm hN ?_
   iterate 2 refine g1 ?_
   refine gc1 ?_ (oprel_b2sA T0_ok rfl (tx (mvN now (f, c, t))) rfl rfl rfl rfl rfl rfl rfl)
   refine gc1 ?_ (oprel_lookup_ok mpK mpT mpE mpZ rfl rfl rfl hss2) (hst := by simp +decide (disch := omega) only [nrm, lk_nrm, dc_nrm, mk_nrm, mf_nrm, ti_nrm, ls_nrm, mp_nrm, nb_nrm, hset, pick_and, pick_or, ↓reduceIte, Nat.reduceAdd, hfs]; rfl)
   iterate 5 refine g1 ?_
   refine awp_seq ?_
   refine r1 T0_ok hP hm hN ?_
   iterate 2 refine g1 ?_
   refine awp_cond rfl (fun hc2 => ?_) (fun hc2 => ?_)
   ·
    have hnf : (R.2 (mvN now (f, c, t))).isSome = false := by simpa using hc2
    have hstd : ∀ q ∈ ([(4, ⟨5, 1, false, ints .u8 (tx (mvN now (f, c, t)))⟩), (3, ⟨40, 3, true, [b3D (f, c, t)]⟩), (2, ⟨9, 1, false, xs⟩), (1, ⟨40, 3, false, b3s (blks k0)⟩)] : HP), ∀ y ∈ q.2.xs, ∀ d ∈ y, staysD d = true := by
      refine fm_cons (ints_stays _ _) (fm_cons ?_ (fm_cons hst (fm_cons (b3s_stays _) fm_nil)))
      exact b3s_stays [(f, c, t)]
    have hupd : updM mb (MapS Pr 9 3 (fun u => if u = strOfNums (tx (mvN now (f, c, t))) then some ((((R.2 now).getD 0 : Nat) : Int) + 1) else fM R.2 u) (R.1.length + 1)) (mpD mb R.2 R.1.length) = mpD mb (updN R.2 (mvN now (f, c, t)) ((R.2 now).getD 0 + 1)) (R.1.length + 1) := by
      have e := fM_upd hd5 R.2 ((R.2 now).getD 0 + 1)
      simp only [updM, mpD, if_true, ← e]
      rfl
    refine awp_seq ?_
    refine awp_joinW (st1 := ⟨[(34, .val (.int .i64 ((i : Nat) : Int))), (33, .val (.int .i64 (((blks k0).length : Nat) : Int))), (32, .own 1), (4, mpD mb (updN R.2 (mvN now (f, c, t)) ((R.2 now).getD 0 + 1)) (R.1.length + 1)), (6, .vw 2 lo (R.1.length - at_)), (5, .own 1), (9, .own 4)], [(4, ⟨5, 1, false, ints .u8 (tx (mvN now (f, c, t)))⟩), (3, ⟨40, 3, true, [b3D (f, c, t)]⟩), (2, ⟨9, 1, false, xs⟩), (1, ⟨40, 3, false, b3s (blks k0)⟩)], 5⟩) ?_ ?_
    ·
     refine awp_any hP Pr_mix _ rfl 10 rfl ?_
     refine anyS_float T0_ok hP hm hN (by rfl) 0 rfl rfl rfl (by rfl) (by rfl) (by rfl) ?_
     refine g1 ?_
     refine anyS_float T0_ok hP hm hN (by rfl) 1 rfl rfl rfl (by rfl) (by rfl) (by rfl) ?_
     refine g1 ?_
     refine anyS_float T0_ok hP hm hN (by rfl) 3 rfl rfl rfl (by rfl) (by rfl) (by rfl) ?_
     refine g1 ?_
     refine anyS_float T0_ok hP hm hN (by rfl) 4 rfl rfl rfl (by rfl) (by rfl) (by rfl) ?_
     refine g1 ?_
     refine anyS_cons T0_ok hP hm hN (by rfl) [2, 5] (by rfl) rfl ?_
     refine ⟨⟨_, rfl, rfl, ?_⟩, ?_⟩
     ·
      refine gc1 ?_ (oprel_b2sA T0_ok rfl (tx (mvN now (f, c, t))) rfl rfl rfl rfl rfl rfl rfl)
      refine anyS_cons T0_ok hP hm hN (by rfl) [5] (by rfl) rfl ?_
      refine ⟨⟨_, rfl, rfl, ?_⟩, trivial⟩
      refine g1 ?_ (hst := by simp +decide (disch := omega) only [nrm, lk_nrm, dc_nrm, mk_nrm, mf_nrm, ti_nrm, ls_nrm, mp_nrm, nb_nrm, hset, pick_and, pick_or, ↓reduceIte, Nat.reduceAdd, wI64, wI32, wI16, wI8, wU8, List.length_map, Int.toNat_natCast, xn1, xn2, Int.toNat_zero, Nat.add_zero]; rfl)
      refine anyS_cons T0_ok hP hm hN (by rfl) [6] (by rfl) rfl ?_
      refine ⟨⟨_, rfl, rfl, ?_⟩, trivial⟩
      refine g1 ?_
      refine anyS_cons T0_ok hP hm hN (by rfl) [7] (by rfl) rfl ?_
      refine ⟨⟨_, rfl, rfl, ?_⟩, trivial⟩
      refine gc1 ?_ (oprel_lookup mpK mpT mpE mpZ rfl rfl rfl hss) (hst := by simp +decide (disch := omega) only [nrm, lk_nrm, dc_nrm, mk_nrm, mf_nrm, ti_nrm, ls_nrm, mp_nrm, nb_nrm, hset, pick_and, pick_or, ↓reduceIte, Nat.reduceAdd, hfn]; rfl)
      refine anyS_floatV T0_ok hP hm hN (by rfl) 8 rfl rfl (by rfl) (by rfl) (by first | trivial | rfl | exact ⟨rfl, rfl⟩ | exact ⟨rfl, rfl, fun _ => rfl, Nat.le_of_ble_eq_true rfl, .inl rfl⟩ | exact ⟨rfl, rfl, fun h => (nomatch h), Nat.le_of_ble_eq_true rfl, .inl rfl⟩ | exact ⟨rfl, rfl, fun _ => rfl, Nat.le_of_ble_eq_true rfl, .inr rfl⟩ | exact ⟨rfl, rfl, fun h => (nomatch h), Nat.le_of_ble_eq_true rfl, .inr rfl⟩ | omega | exact ⟨rfl, by (repeat (first | exact fm_nil | refine fm_cons ⟨rfl, rfl⟩ ?_)), Nat.le_of_ble_eq_true rfl, Nat.le_of_ble_eq_true rfl⟩ | (refine ⟨?_, ?_, ?_, ?_, ?_, ?_, ?_⟩ <;> first | omega | exact Nat.le_of_ble_eq_true rfl) | exact ⟨rfl, by omega, by (try simp only [List.length_map, List.length_set]); omega⟩ | exact ⟨rfl, by omega, by simp only [Int.toNat_natCast]; omega, by omega, Nat.le_of_ble_eq_true rfl, rfl⟩) rfl (by rfl) (by rfl) (by rfl) ?_
      refine g1 ?_
      refine anyS_mapupd (n := R.1.length) hP rfl (by rfl) (by rfl) (.inl rfl) mpK mpT mpE rfl rfl rfl (wf_i64 (Nat.le_trans hd7 (Nat.le_trans hk6 (by decide)))) (by simp only [maxLen]; omega) hss2 hmw hstd ?_
      refine ⟨rfl, ?_⟩
      refine weak_sl (sub_cons rfl (sub_cons rfl (sub_cons rfl (sub_cons ?_ (sub_cons rfl (sub_cons rfl (sub_cons rfl sub_nil)))))))
      exact congrArg some hupd
     refine ⟨⟨_, rfl, rfl, ?_⟩, trivial⟩
     refine g1 ?_ (hst := by simp +decide (disch := omega) only [nrm, lk_nrm, dc_nrm, mk_nrm, mf_nrm, ti_nrm, ls_nrm, mp_nrm, nb_nrm, hset, pick_and, pick_or, ↓reduceIte, Nat.reduceAdd, wI64, wI32, wI16, wI8, wU8, List.length_map, Int.toNat_natCast, xn1, xn2, Int.toNat_zero, Nat.add_zero]; rfl)
     refine anyS_cons T0_ok hP hm hN (by rfl) [2, 6] (by rfl) rfl ?_
     refine ⟨⟨_, rfl, rfl, ?_⟩, ?_⟩
     ·
      refine gc1 ?_ (oprel_b2sA T0_ok rfl (tx (mvN now (f, c, t))) rfl rfl rfl rfl rfl rfl rfl)
      refine anyS_cons T0_ok hP hm hN (by rfl) [6] (by rfl) rfl ?_
      refine ⟨⟨_, rfl, rfl, ?_⟩, trivial⟩
      refine g1 ?_
      refine anyS_cons T0_ok hP hm hN (by rfl) [7] (by rfl) rfl ?_
      refine ⟨⟨_, rfl, rfl, ?_⟩, trivial⟩
      refine gc1 ?_ (oprel_lookup mpK mpT mpE mpZ rfl rfl rfl hss) (hst := by simp +decide (disch := omega) only [nrm, lk_nrm, dc_nrm, mk_nrm, mf_nrm, ti_nrm, ls_nrm, mp_nrm, nb_nrm, hset, pick_and, pick_or, ↓reduceIte, Nat.reduceAdd, hfn]; rfl)
      refine anyS_floatV T0_ok hP hm hN (by rfl) 8 rfl rfl (by rfl) (by rfl) (by first | trivial | rfl | exact ⟨rfl, rfl⟩ | exact ⟨rfl, rfl, fun _ => rfl, Nat.le_of_ble_eq_true rfl, .inl rfl⟩ | exact ⟨rfl, rfl, fun h => (nomatch h), Nat.le_of_ble_eq_true rfl, .inl rfl⟩ | exact ⟨rfl, rfl, fun _ => rfl, Nat.le_of_ble_eq_true rfl, .inr rfl⟩ | exact ⟨rfl, rfl, fun h => (nomatch h), Nat.le_of_ble_eq_true rfl, .inr rfl⟩ | omega | exact ⟨rfl, by (repeat (first | exact fm_nil | refine fm_cons ⟨rfl, rfl⟩ ?_)), Nat.le_of_ble_eq_true rfl, Nat.le_of_ble_eq_true rfl⟩ | (refine ⟨?_, ?_, ?_, ?_, ?_, ?_, ?_⟩ <;> first | omega | exact Nat.le_of_ble_eq_true rfl) | exact ⟨rfl, by omega, by (try simp only [List.length_map, List.length_set]); omega⟩ | exact ⟨rfl, by omega, by simp only [Int.toNat_natCast]; omega, by omega, Nat.le_of_ble_eq_true rfl, rfl⟩) rfl (by rfl) (by rfl) (by rfl) ?_
      refine g1 ?_
      refine anyS_mapupd (n := R.1.length) hP rfl (by rfl) (by rfl) (.inl rfl) mpK mpT mpE rfl rfl rfl (wf_i64 (Nat.le_trans hd7 (Nat.le_trans hk6 (by decide)))) (by simp only [maxLen]; omega) hss2 hmw hstd ?_
      refine ⟨rfl, ?_⟩
      refine weak_sl (sub_cons rfl (sub_cons rfl (sub_cons rfl (sub_cons ?_ (sub_cons rfl (sub_cons rfl (sub_cons rfl sub_nil)))))))
      exact congrArg some hupd
     refine ⟨⟨_, rfl, rfl, ?_⟩, trivial⟩
     refine g1 ?_
     refine anyS_cons T0_ok hP hm hN (by rfl) [2, 7] (by rfl) rfl ?_
     refine ⟨⟨_, rfl, rfl, ?_⟩, ?_⟩
     ·
      refine gc1 ?_ (oprel_b2sA T0_ok rfl (tx (mvN now (f, c, t))) rfl rfl rfl rfl rfl rfl rfl)
      refine anyS_cons T0_ok hP hm hN (by rfl) [7] (by rfl) rfl ?_
      refine ⟨⟨_, rfl, rfl, ?_⟩, trivial⟩
      refine gc1 ?_ (oprel_lookup mpK mpT mpE mpZ rfl rfl rfl hss) (hst := by simp +decide (disch := omega) only [nrm, lk_nrm, dc_nrm, mk_nrm, mf_nrm, ti_nrm, ls_nrm, mp_nrm, nb_nrm, hset, pick_and, pick_or, ↓reduceIte, Nat.reduceAdd, hfn]; rfl)
      refine anyS_floatV T0_ok hP hm hN (by rfl) 8 rfl rfl (by rfl) (by rfl) (by first | trivial | rfl | exact ⟨rfl, rfl⟩ | exact ⟨rfl, rfl, fun _ => rfl, Nat.le_of_ble_eq_true rfl, .inl rfl⟩ | exact ⟨rfl, rfl, fun h => (nomatch h), Nat.le_of_ble_eq_true rfl, .inl rfl⟩ | exact ⟨rfl, rfl, fun _ => rfl, Nat.le_of_ble_eq_true rfl, .inr rfl⟩ | exact ⟨rfl, rfl, fun h => (nomatch h), Nat.le_of_ble_eq_true rfl, .inr rfl⟩ | omega | exact ⟨rfl, by (repeat (first | exact fm_nil | refine fm_cons ⟨rfl, rfl⟩ ?_)), Nat.le_of_ble_eq_true rfl, Nat.le_of_ble_eq_true rfl⟩ | (refine ⟨?_, ?_, ?_, ?_, ?_, ?_, ?_⟩ <;> first | omega | exact Nat.le_of_ble_eq_true rfl) | exact ⟨rfl, by omega, by (try simp only [List.length_map, List.length_set]); omega⟩ | exact ⟨rfl, by omega, by simp only [Int.toNat_natCast]; omega, by omega, Nat.le_of_ble_eq_true rfl, rfl⟩) rfl (by rfl) (by rfl) (by rfl) ?_
      refine g1 ?_
      refine anyS_mapupd (n := R.1.length) hP rfl (by rfl) (by rfl) (.inl rfl) mpK mpT mpE rfl rfl rfl (wf_i64 (Nat.le_trans hd7 (Nat.le_trans hk6 (by decide)))) (by simp only [maxLen]; omega) hss2 hmw hstd ?_
      refine ⟨rfl, ?_⟩
      refine weak_sl (sub_cons rfl (sub_cons rfl (sub_cons rfl (sub_cons ?_ (sub_cons rfl (sub_cons rfl (sub_cons rfl sub_nil)))))))
      exact congrArg some hupd
     refine ⟨⟨_, rfl, rfl, ?_⟩, trivial⟩
     refine gc1 ?_ (oprel_lookup mpK mpT mpE mpZ rfl rfl rfl hss) (hst := by simp +decide (disch := omega) only [nrm, lk_nrm, dc_nrm, mk_nrm, mf_nrm, ti_nrm, ls_nrm, mp_nrm, nb_nrm, hset, pick_and, pick_or, ↓reduceIte, Nat.reduceAdd, hfn]; rfl)
     refine anyS_floatV T0_ok hP hm hN (by rfl) 8 rfl rfl (by rfl) (by rfl) (by first | trivial | rfl | exact ⟨rfl, rfl⟩ | exact ⟨rfl, rfl, fun _ => rfl, Nat.le_of_ble_eq_true rfl, .inl rfl⟩ | exact ⟨rfl, rfl, fun h => (nomatch h), Nat.le_of_ble_eq_true rfl, .inl rfl⟩ | exact ⟨rfl, rfl, fun _ => rfl, Nat.le_of_ble_eq_true rfl, .inr rfl⟩ | exact ⟨rfl, rfl, fun h => (nomatch h), Nat.le_of_ble_eq_true rfl, .inr rfl⟩ | omega | exact ⟨rfl, by (repeat (first | exact fm_nil | refine fm_cons ⟨rfl, rfl⟩ ?_)), Nat.le_of_ble_eq_true rfl, Nat.le_of_ble_eq_true rfl⟩ | (refine ⟨?_, ?_, ?_, ?_, ?_, ?_, ?_⟩ <;> first | omega | exact Nat.le_of_ble_eq_true rfl) | exact ⟨rfl, by omega, by (try simp only [List.length_map, List.length_set]); omega⟩ | exact ⟨rfl, by omega, by simp only [Int.toNat_natCast]; omega, by omega, Nat.le_of_ble_eq_true rfl, rfl⟩) rfl (by rfl) (by rfl) (by rfl) ?_
     refine g1 ?_
     refine anyS_cons T0_ok hP hm hN (by rfl) [2] (by rfl) rfl ?_
     refine ⟨⟨_, rfl, rfl, ?_⟩, trivial⟩
     refine gc1 ?_ (oprel_b2sA T0_ok rfl (tx (mvN now (f, c, t))) rfl rfl rfl rfl rfl rfl rfl)
     refine anyS_mapupd (n := R.1.length) hP rfl (by rfl) (by rfl) (.inl rfl) mpK mpT mpE rfl rfl rfl (wf_i64 (Nat.le_trans hd7 (Nat.le_trans hk6 (by decide)))) (by simp only [maxLen]; omega) hss2 hmw hstd ?_
     refine ⟨rfl, ?_⟩
     refine weak_sl (sub_cons rfl (sub_cons rfl (sub_cons rfl (sub_cons ?_ (sub_cons rfl (sub_cons rfl (sub_cons rfl sub_nil)))))))
     exact congrArg some hupd
    ·
     refine awp_sreg rfl ?_
     refine sg1 T0_ok hP hm hN ?_
     refine sg1 T0_ok hP hm hN ?_
     refine sgc1 T0_ok hP hm hN ?_ (oprel_b2sA T0_ok rfl (tx (mvN now (f, c, t))) rfl rfl rfl rfl rfl rfl rfl)
     refine sg1 T0_ok hP hm hN ?_
     refine sreg_appview T0_ok hP hN (by decide) rfl rfl rfl rfl rfl rfl (by decide) rfl (by first | trivial | rfl | simp) (by simp) hln hne (by omega) (by simp only [List.length_cons, List.length_nil]; omega) (by simp only [List.length_cons, List.length_nil]; omega) (fun lo2 xs2 hd8 hln2 hne2 hmem2 => ?_)
     refine sreg_weak (st' := ⟨[(69, .vw 2 lo2 (R.1.length - at_ + 1)), (34, .val (.int .i64 ((i : Nat) : Int))), (33, .val (.int .i64 (((blks k0).length : Nat) : Int))), (32, .own 1), (4, mpD mb (updN R.2 (mvN now (f, c, t)) ((R.2 now).getD 0 + 1)) (R.1.length + 1)), (5, .own 1)], [(2, ⟨9, 1, false, xs2⟩), (1, ⟨40, 3, false, b3s (blks k0)⟩)], 3⟩) ?_ ?_
     · exact Weak.trans (weak_drop 5) (Weak.trans (weak_drop 4) (Weak.trans (weak_drop 3) (Weak.trans (weak_nx (nx' := 3) (by omega) (by rfl)) (weak_sl (sub_cons rfl (sub_cons rfl (sub_cons rfl (sub_cons rfl (sub_cons rfl (sub_cons rfl (sub_nil)))))))))))
     refine sreg_rest T0_ok hP hm hN ?_
     refine g1 ?_
     have hRn : runB now (bfs (blks k0) s0 at_) ((blks k0).take (i + 1)) = (R.1 ++ [mvN now (f, c, t)], updN R.2 (mvN now (f, c, t)) ((R.2 now).getD 0 + 1)) := by rw [hRs]; exact bstep_new hnf
     have hlen2 : (R.1 ++ [mvN now (f, c, t)]).length = R.1.length + 1 := by simp
     simp only [List.length_cons, List.length_nil, Nat.zero_add] at hln2
     rw [show R.1.length - at_ + 1 = R.1.length + 1 - at_ by omega] at hln2 ⊢
     have hxs2 : xs2.drop lo2 = txs ((R.1 ++ [mvN now (f, c, t)]).drop at_) := by
       rw [List.drop_append_of_le_length (by omega), hd8, hxs, txs_app]; rfl
     have hst2 : ∀ y ∈ xs2, ∀ d ∈ y, staysD d = true := fun y hy => by
       rcases hmem2 y hy with h | h
       · exact hst y h
       · intro d hd
         have h : y ∈ [[D.val (.string (strOfNums (tx (mvN now (f, c, t)))))]] := h
         rw [List.mem_singleton.1 h] at hd
         rw [List.mem_singleton.1 hd]; rfl
     have hqn : (R.1 ++ [mvN now (f, c, t)]).length ≤ 46656 := by
       have e := round_q hk6 h0 hatl hnow (i + 1)
       rw [hRn] at e
       exact e
     refine r1 T0_ok hP hm hN ?_
     iterate 2 refine g1 ?_
     first
       | exact ⟨_, ⟨[(34, .val (.int .i64 ((i + 1 : Nat) : Int))), (33, .val (.int .i64 (((blks k0).length : Nat) : Int))), (32, .own 1), (4, mpD mb (runB now (bfs (blks k0) s0 at_) ((blks k0).take (i + 1))).2 (runB now (bfs (blks k0) s0 at_) ((blks k0).take (i + 1))).1.length), (6, .vw 2 lo ((runB now (bfs (blks k0) s0 at_) ((blks k0).take (i + 1))).1.length - at_)), (5, .own 1)], [(2, ⟨9, 1, false, xs⟩), (1, ⟨40, 3, false, b3s (blks k0)⟩)], 3⟩, by omega, (by rw [hRn]; exact Weak.trans (weak_drop 4) (Weak.trans (weak_drop 3) (Weak.trans (weak_nx (nx' := 3) (by omega) (by rfl)) (weak_sl (sub_cons rfl (sub_cons rfl (sub_cons rfl (sub_cons rfl (sub_cons rfl (sub_cons rfl (sub_nil))))))))))), i + 1, lo, xs, hlti, rfl, by rw [hRn]; exact hatr, by rw [hRn]; exact hqi, by rw [hRn]; exact hxs, by rw [hRn]; exact hln, hne, hst, rfl⟩
       | exact ⟨_, ⟨[(34, .val (.int .i64 ((i + 1 : Nat) : Int))), (33, .val (.int .i64 (((blks k0).length : Nat) : Int))), (32, .own 1), (4, mpD mb (runB now (bfs (blks k0) s0 at_) ((blks k0).take (i + 1))).2 (runB now (bfs (blks k0) s0 at_) ((blks k0).take (i + 1))).1.length), (6, .vw 2 lo2 ((runB now (bfs (blks k0) s0 at_) ((blks k0).take (i + 1))).1.length - at_)), (5, .own 1)], [(2, ⟨9, 1, false, xs2⟩), (1, ⟨40, 3, false, b3s (blks k0)⟩)], 3⟩, by omega, (by rw [hRn, hlen2]; exact weak_sl (sub_cons rfl (sub_cons rfl (sub_cons rfl (sub_cons rfl (sub_cons rfl (sub_cons rfl (sub_nil)))))))), i + 1, lo2, xs2, hlti, rfl, by rw [hRn, hlen2]; omega, by rw [hRn]; exact hqn, by rw [hRn]; exact hxs2, by rw [hRn, hlen2]; exact hln2, hne2, hst2, rfl⟩
   ·
    have hnf : (R.2 (mvN now (f, c, t))).isSome = true := by simpa using hc2
    have hRn : runB now (bfs (blks k0) s0 at_) ((blks k0).take (i + 1)) = R := by rw [hRs]; exact bstep_old hnf
    refine awp_skip ?_
    refine r1 T0_ok hP hm hN ?_
    iterate 2 refine g1 ?_
    first
      | exact ⟨_, ⟨[(34, .val (.int .i64 ((i + 1 : Nat) : Int))), (33, .val (.int .i64 (((blks k0).length : Nat) : Int))), (32, .own 1), (4, mpD mb (runB now (bfs (blks k0) s0 at_) ((blks k0).take (i + 1))).2 (runB now (bfs (blks k0) s0 at_) ((blks k0).take (i + 1))).1.length), (6, .vw 2 lo ((runB now (bfs (blks k0) s0 at_) ((blks k0).take (i + 1))).1.length - at_)), (5, .own 1)], [(2, ⟨9, 1, false, xs⟩), (1, ⟨40, 3, false, b3s (blks k0)⟩)], 3⟩, by omega, (by rw [hRn]; exact Weak.trans (weak_drop 4) (Weak.trans (weak_drop 3) (Weak.trans (weak_nx (nx' := 3) (by omega) (by rfl)) (weak_sl (sub_cons rfl (sub_cons rfl (sub_cons rfl (sub_cons rfl (sub_cons rfl (sub_cons rfl (sub_nil))))))))))), i + 1, lo, xs, hlti, rfl, by rw [hRn]; exact hatr, by rw [hRn]; exact hqi, by rw [hRn]; exact hxs, by rw [hRn]; exact hln, hne, hst, rfl⟩
      | exact ⟨_, ⟨[(34, .val (.int .i64 ((i + 1 : Nat) : Int))), (33, .val (.int .i64 (((blks k0).length : Nat) : Int))), (32, .own 1), (4, mpD mb (runB now (bfs (blks k0) s0 at_) ((blks k0).take (i + 1))).2 (runB now (bfs (blks k0) s0 at_) ((blks k0).take (i + 1))).1.length), (6, .vw 2 lo2 ((runB now (bfs (blks k0) s0 at_) ((blks k0).take (i + 1))).1.length - at_)), (5, .own 1)], [(2, ⟨9, 1, false, xs2⟩), (1, ⟨40, 3, false, b3s (blks k0)⟩)], 3⟩, by omega, (by rw [hRn, hlen2]; exact weak_sl (sub_cons rfl (sub_cons rfl (sub_cons rfl (sub_cons rfl (sub_cons rfl (sub_cons rfl (sub_nil)))))))), i + 1, lo2, xs2, hlti, rfl, by rw [hRn, hlen2]; omega, by rw [hRn]; exact hqn, by rw [hRn]; exact hxs2, by rw [hRn, hlen2]; exact hln2, hne2, hst2, rfl⟩
  ·
   have hgei : ¬ i < (blks k0).length := by simpa using hc1
   have heqi : i = (blks k0).length := by omega
   refine awp_exit ?_
   repeat refine thenA_exit ?_
   refine blockA_hit ?_
   refine r1 T0_ok hP hm hN ?_
   iterate 3 refine g1 ?_
   have e2 := bfs_next hatl hnow
   refine ⟨_, ⟨[(4, mpD mb (bfs (blks k0) s0 (at_ + 1)).2 (bfs (blks k0) s0 (at_ + 1)).1.length), (6, .vw 2 (lo + 1) ((bfs (blks k0) s0 (at_ + 1)).1.length - (at_ + 1))), (5, .own 1)], [(2, ⟨9, 1, false, xs⟩), (1, ⟨40, 3, false, b3s (blks k0)⟩)], 3⟩, ?_, ?_, at_ + 1, lo + 1, xs, ?_, ?_, rfl, ?_, ?_, hne, hst, rfl⟩
   · omega
   · rw [← e2, ← heqi, show (runB now (bfs (blks k0) s0 at_) ((blks k0).take i)).1.length - (at_ + 1) = (runB now (bfs (blks k0) s0 at_) ((blks k0).take i)).1.length - at_ - 1 by omega]
     exact weak_sl (sub_cons rfl (sub_cons rfl (sub_cons rfl (sub_nil))))
   · rw [← e2, ← heqi]; omega
   · rw [← e2, ← heqi]; exact hqi
   · rw [← e2, ← heqi]; exact txs_tail hxs
   · rw [← e2, ← heqi]; omega
 ·
  have hend : at_ = (bfs (blks k0) s0 at_).1.length := by simp at hc0; omega
  have hfin : bfs (blks k0) s0 at_ = endB k0 s0 := bfs_end (by omega) (by omega)
  refine awp_exit ?_
  repeat refine thenA_exit ?_
  refine blockA_hit ?_
  refine awp_seq ?_
  refine r1 T0_ok hP hm hN ?_
  iterate 2 refine g1 ?_
  rw [hfin] 
  refine awp_weak (weak_mp (t := 2) rfl (fun o h => MapS.mono h (by rw [← hfin]; exact hq))) ?_
  refine awp_ret ?_
  refine fin_mk [] rfl rfl ?_ trivial (by decide)
  show D.mp none (MapS _ _ _ (fM (endB x.length (sortI x)).2) 46656) = _
  rw [hk0, hs0]
  rfl
end Go.Proofs.YtpdkhlpmiblflaaGreat.Abs

