import Derived.Test.YtpdkhlpmiblflaaGreatQ5
set_option linter.unusedVariables false
set_option linter.unusedSimpArgs false
namespace Go.Proofs.YtpdkhlpmiblflaaGreat.Abs
open Go Go.RowKit

theorem bks_app' (xs ys : List Bk) : bks (xs ++ ys) = bks xs ++ bks ys := by simp
def bkp (xs : List Bk) (ps : List Int) : List Bk := ps.map fun p => xs.getD p.toNat bk0
theorem bkp_len (xs : List Bk) (ps : List Int) : (bkp xs ps).length = ps.length := by simp [bkp]
theorem bkp_get (xs : List Bk) (ps : List Int) {j : Nat} (h : j < ps.length) : (bkp xs ps).getD j bk0 = xs.getD (ps.getD j 0).toNat bk0 := by simp [bkp, List.getD, h]
noncomputable def ipl (xs : List Bk) (i : Nat) : List Int := srt (cP xs) 0 i (iotaL i)
noncomputable def srtB (xs : List Bk) : List Bk := bkp xs (plcL xs)
theorem ipl_perm (xs : List Bk) (i : Nat) : (ipl xs i).Perm (iotaL i) := srt_perm _ _ _ _
theorem ipl_len (xs : List Bk) (i : Nat) : (ipl xs i).length = i := by rw [(ipl_perm xs i).length_eq, iotaL_len]
theorem srtB_len (xs : List Bk) : (srtB xs).length = xs.length := by rw [srtB, bkp_len, plcL_len]
theorem ipl_pw (xs : List Bk) (i : Nat) : (ipl xs i).Pairwise (ltC (cP xs)) := by
  have h := (srt_ok (ord_cP xs) (Nat.zero_le i) (by rw [iotaL_len]; exact Nat.le_refl _) (fun a b _ hab hb => by
    rw [iotaL_get (by omega), iotaL_get hb]; omega)).2
  have hl := ipl_len xs i
  have h2 := (sd_pair (Nat.zero_le i) (show i ≤ (ipl xs i).length by omega)).1 h
  have h3 : seg (ipl xs i) 0 i = ipl xs i := by
    simp only [seg, List.drop_zero, Nat.sub_zero]
    exact List.take_of_length_le (by omega)
  rw [h3] at h2
  exact h2
theorem ipl_rng (xs : List Bk) {i j : Nat} (h : j < i) : 0 ≤ (ipl xs i).getD j 0 ∧ (ipl xs i).getD j 0 < i :=
  iotaL_mem ((ipl_perm xs i).mem_iff.1 (getD_mem' (by rw [ipl_len]; exact h)))
def insK (ps : List Int) (k : Nat) (x : Int) : List Int := ps.take k ++ x :: ps.drop k
theorem insK_len (ps : List Int) {k : Nat} (x : Int) (h : k ≤ ps.length) : (insK ps k x).length = ps.length + 1 := by
  simp only [insK, List.length_append, List.length_cons, List.length_take, List.length_drop]; omega
def shfK (ps : List Int) (k : Nat) (x : Int) : List Int := insK ps k (if k < ps.length then ps.getD k 0 else x)
theorem shfK_end (ps : List Int) (x : Int) : shfK ps ps.length x = ps ++ [x] := by simp [shfK, insK]
theorem getD_insK (ps : List Int) {k : Nat} (x : Int) (hk : k ≤ ps.length) (j : Nat) : (insK ps k x).getD j 0 = if j < k then ps.getD j 0 else if j = k then x else ps.getD (j - 1) 0 := by
  unfold insK
  by_cases h1 : j < k
  · rw [if_pos h1]
    simp only [List.getD, List.getElem?_append_left (show j < (ps.take k).length by rw [List.length_take]; omega), List.getElem?_take, if_pos h1]
  · rw [if_neg h1]
    have hl : (ps.take k).length = k := by rw [List.length_take]; omega
    by_cases h2 : j = k
    · rw [if_pos h2]
      subst h2
      rw [List.getD, List.getElem?_append_right (by omega), hl, Nat.sub_self]
      rfl
    · rw [if_neg h2]
      simp only [List.getD, List.getElem?_append_right (show (ps.take k).length ≤ j by omega), hl]
      obtain ⟨m, hm⟩ : ∃ m, j - k = m + 1 := ⟨j - k - 1, by omega⟩
      rw [hm, List.getElem?_cons_succ, List.getElem?_drop, show k + m = j - 1 by omega]
theorem set_insK (ps : List Int) {k : Nat} (x y : Int) (hk : k ≤ ps.length) : (insK ps k x).set k y = insK ps k y := by
  unfold insK
  have hl : (ps.take k).length = k := by rw [List.length_take]; omega
  rw [List.set_append, if_neg (by omega), hl, Nat.sub_self]
  rfl
theorem shf_step (ps : List Int) {k : Nat} (x : Int) (h0 : 0 < k) (hk : k ≤ ps.length) : (shfK ps k x).set k (ps.getD (k - 1) 0) = shfK ps (k - 1) x := by
  unfold shfK
  rw [set_insK _ _ _ hk, if_pos (by omega)]
  apply ext_getD
  · rw [insK_len _ _ hk, insK_len _ _ (by omega)]
  · intro j _
    rw [getD_insK _ _ hk, getD_insK _ _ (by omega)]
    by_cases h1 : j < k - 1
    · rw [if_pos (by omega), if_pos h1]
    · rw [if_neg h1]
      by_cases h2 : j = k - 1
      · rw [if_pos (by omega), if_pos h2, h2]
      · rw [if_neg h2]
        by_cases h3 : j = k
        · rw [if_neg (by omega), if_pos h3, h3]
        · rw [if_neg (by omega), if_neg h3]
theorem ins_srt (xs : List Bk) {i k : Nat} (hk : k ≤ i) (hgt : ∀ j, k ≤ j → j < i → cP xs (i : Nat) ((ipl xs i).getD j 0) < 0) (hst : k = 0 ∨ ¬ cP xs (i : Nat) ((ipl xs i).getD (k - 1) 0) < 0) : ipl xs (i + 1) = insK (ipl xs i) k (i : Nat) := by
  have hl := ipl_len xs i
  have hpw := ipl_pw xs i
  have hpm := ipl_perm xs i
  have hil := insK_len (ipl xs i) (k := k) (i : Nat) (by omega)
  have hperm : (insK (ipl xs i) k (i : Nat)).Perm (iotaL (i + 1)) := by
    rw [iotaL_suc, insK]
    refine (List.perm_middle).trans ?_
    rw [List.take_append_drop]
    exact (List.Perm.cons _ hpm).trans (List.perm_append_singleton _ _).symm
  refine srt_eq (ord_cP xs) (Nat.zero_le _) (by rw [iotaL_len]; exact Nat.le_refl _) ⟨hperm, fun p hp => ?_⟩ ?_
  · have hp2 : i + 1 ≤ p := by omega
    rw [List.getD, List.getD, List.getElem?_eq_none (by omega), List.getElem?_eq_none (by rw [iotaL_len]; omega)]
  · refine (sd_pair (Nat.zero_le _) (by omega)).2 ?_
    have h3 : seg (insK (ipl xs i) k (i : Nat)) 0 (i + 1) = insK (ipl xs i) k (i : Nat) := by
      simp only [seg, List.drop_zero, Nat.sub_zero]
      exact List.take_of_length_le (by omega)
    rw [h3]
    have hpw2 := hpw
    rw [← List.take_append_drop k (ipl xs i), List.pairwise_append] at hpw2
    obtain ⟨q1, q2, q3⟩ := hpw2
    have hlo : ∀ a, a ∈ (ipl xs i).take k → ltC (cP xs) a (i : Nat) := fun a ha => by
      obtain ⟨j, hj, rfl⟩ := List.getElem_of_mem ha
      rw [List.length_take] at hj
      have hj1 : j < k := by omega
      have hst' := hst.resolve_left (by omega)
      have r1 := ipl_rng xs (i := i) (j := k - 1) (by omega)
      have l1 : ltC (cP xs) ((ipl xs i).getD (k - 1) 0) (i : Nat) := ltC_of_not (ord_cP xs) hst' r1.2
      have e1 : ((ipl xs i).take k)[j] = (ipl xs i).getD j 0 := by simp [List.getD, show j < (ipl xs i).length by omega]
      rw [e1]
      by_cases e : j = k - 1
      · rw [e]; exact l1
      · have hp3 : ltC (cP xs) ((ipl xs i).getD j 0) ((ipl xs i).getD (k - 1) 0) := by
          have := List.pairwise_iff_getElem.1 hpw j (k - 1) (by omega) (by omega) (by omega)
          simpa [List.getD, show j < (ipl xs i).length by omega, show k - 1 < (ipl xs i).length by omega] using this
        exact ltC_trans (ord_cP xs) hp3 l1
    have hhi : ∀ a, a ∈ (ipl xs i).drop k → ltC (cP xs) (i : Nat) a := fun a ha => by
      obtain ⟨j, hj, rfl⟩ := List.getElem_of_mem ha
      rw [List.length_drop] at hj
      have := hgt (k + j) (by omega) (by omega)
      refine .inl ?_
      rw [List.getElem_drop]
      simpa [List.getD, show k + j < (ipl xs i).length by omega] using this
    unfold insK
    rw [List.pairwise_append, List.pairwise_cons]
    refine ⟨q1, ⟨hhi, q2⟩, fun a ha b hb => ?_⟩
    rcases List.mem_cons.1 hb with rfl | hb
    · exact hlo a ha
    · exact q3 a ha b hb
theorem bkp_set (xs : List Bk) (ps : List Int) (k : Nat) (v : Int) : (bkp xs ps).set k (xs.getD v.toNat bk0) = bkp xs (ps.set k v) := by
  simp only [bkp, List.map_set]
theorem bkp_app (xs : List Bk) (ps : List Int) (i : Nat) : bkp xs ps ++ [xs.getD i bk0] = bkp xs (ps ++ [(i : Int)]) := by simp [bkp]
theorem shf_cmp (xs : List Bk) (ps : List Int) {k : Nat} (x : Int) (h0 : 0 < k) (hk : k ≤ ps.length) : (bkp xs (shfK ps k x)).getD (k - 1) bk0 = xs.getD (ps.getD (k - 1) 0).toNat bk0 := by
  have hl : (shfK ps k x).length = ps.length + 1 := insK_len _ _ hk
  rw [bkp_get _ _ (by omega), shfK, getD_insK _ _ hk, if_pos (by omega)]
theorem bkp_mem {xs : List Bk} (hv : ∀ b ∈ xs, isBk b) {ps : List Int} (hp : ∀ p ∈ ps, 0 ≤ p ∧ p < xs.length) : ∀ b ∈ bkp xs ps, isBk b := fun b hb => by
  obtain ⟨p, h1, rfl⟩ := List.mem_map.1 hb
  have := hp p h1
  exact hv _ (getD_mem' (by omega))
theorem shfK_rng {ps : List Int} {k i N : Nat} (hk : k ≤ ps.length) (hp : ∀ p ∈ ps, 0 ≤ p ∧ p < (N : Int)) (hi : i < N) : ∀ p ∈ shfK ps k (i : Nat), 0 ≤ p ∧ p < (N : Int) := fun p hm => by
  unfold shfK insK at hm
  rcases List.mem_append.1 hm with h | h
  · exact hp p (List.mem_of_mem_take h)
  · rcases List.mem_cons.1 h with h | h
    · subst h
      split
      · rename_i hlt; exact hp _ (getD_mem' hlt)
      · omega
    · exact hp p (List.mem_of_mem_drop h)
theorem ipl_all (xs : List Bk) {i N : Nat} (h : i ≤ N) : ∀ p ∈ ipl xs i, 0 ≤ p ∧ p < (N : Int) := fun p hp => by
  have := iotaL_mem ((ipl_perm xs i).mem_iff.1 hp)
  omega

noncomputable abbrev s_S_l01Sorted : Spec (List Bk) where
  args := fun xs => [.sl 1 (ints .i8 usualO), .sl 8 (bks xs)]
  pre := fun xs => (∀ b ∈ xs, isBk b) ∧ xs.length ≤ 1048576
  new := fun xs => [⟨73, 8, false, bks (srtB xs)⟩]
  res := fun xs => .own 0

set_option maxRecDepth 20000 in
set_option maxHeartbeats 4000000 in
theorem ok_S_l01Sorted : FnOk Pr 38 s_S_l01Sorted := by
 refine fn_ok 2 0 T0_ok Go.Proofs.Tryz.func38 rfl (enters_of Go.Proofs.Tryz.func38 rfl rfl) (fun _ => rfl) (fun _ => rfl) (fun _ => rfl) ?_
 rintro xs ⟨hv, hl⟩ C hP hN hm hG
 change awp C _ _ ⟨[(0, .sl 1 (ints .i8 usualO)), (1, .sl 8 (bks xs))], [], 0⟩
 have h00 : bkp xs (ipl xs 0) = [] := List.eq_nil_of_length_eq_zero (by rw [bkp_len, ipl_len])
 have xn1 := And.intro @bks_set (And.intro @tn1 (@natsub1))
 refine awp_seq ?_
 refine r1 T0_ok hP hm hN ?_
 refine g1 ?_
 refine awp_seq ?_
 refine r1 T0_ok hP hm hN ?_
 iterate 2 refine g1 ?_
 refine awp_seq ?_
 refine awp_seq ?_
 refine r1 T0_ok hP hm hN ?_
 refine g1 ?_
 refine awp_block ?_
 refine awp_loop (fun n st => ∃ i : Nat, i ≤ xs.length ∧ n = xs.length - i ∧ st = ⟨[(6, .val (.int .i64 ((i : Nat) : Int))), (5, .own 0), (0, .sl 1 (ints .i8 usualO)), (1, .sl 8 (bks xs))], [(0, ⟨73, 8, false, bks (bkp xs (ipl xs i))⟩)], 1⟩) (xs.length) ⟨_, (by rw [h00]; exact weak_sl (sub_cons rfl (sub_cons rfl (sub_cons rfl (sub_cons rfl (sub_nil)))))), 0, by omega, rfl, rfl⟩ ?_
 rintro n st ⟨i, hii, hni, rfl⟩
 have hpl := ipl_len xs i
 have hbl : (bkp xs (ipl xs i)).length = i := by rw [bkp_len, hpl]
 refine awp_seq ?_
 refine awp_seq ?_
 refine r1 T0_ok hP hm hN ?_
 iterate 4 refine g1 ?_
 refine awp_cond rfl (fun hc0 => ?_) (fun hc0 => ?_)
 ·
  have hlti : i < xs.length := by simpa using hc0
  refine awp_skip ?_
  refine awp_seq ?_
  refine awp_block ?_
  refine awp_seq ?_
  refine r1 T0_ok hP hm hN ?_
  iterate 3 refine g1 ?_
  refine awp_seq ?_
  refine r1 T0_ok hP hm hN ?_
  iterate 6 refine g1 ?_
  refine ga1 ?_
  refine g1 ?_
  refine awp_seq ?_
  refine awp_block ?_
  have hgi : xs.getD i bk0 = (bkp xs (shfK (ipl xs i) i (i : Nat))).getD i bk0 := by
    rw [bkp_get _ _ (by rw [shfK, insK_len _ _ (by omega)]; omega), shfK, getD_insK _ _ (by omega), if_neg (by omega), if_pos rfl, if_neg (by omega)]
    rfl
  have hst0 : bks (bkp xs (shfK (ipl xs i) i (i : Nat))) = bks (bkp xs (ipl xs i)) ++ [bkRow (xs.getD i bk0)] := by
    have e := shfK_end (ipl xs i) (i : Nat)
    rw [hpl] at e
    rw [e, ← bkp_app, bks_app']
    rfl
  refine awp_loop (fun n st => ∃ k : Nat, k ≤ i ∧ (∀ j, k ≤ j → j < i → cP xs (i : Nat) ((ipl xs i).getD j 0) < 0) ∧ n = k ∧ st = ⟨[(7, .val (.int .i64 ((k : Nat) : Int))), (6, .val (.int .i64 ((i : Nat) : Int))), (5, .own 0), (0, .sl 1 (ints .i8 usualO)), (1, .sl 8 (bks xs))], [(0, ⟨73, 8, false, bks (bkp xs (shfK (ipl xs i) k (i : Nat)))⟩)], 1⟩) i ⟨_, (by
    rw [hst0, hbl]
    exact Weak.trans (weak_drop 1) (Weak.trans (weak_nx (nx' := 1) (by omega) (by rfl)) (weak_sl (sub_cons rfl (sub_cons rfl (sub_cons rfl (sub_cons rfl (sub_cons rfl (sub_nil))))))))), i, by omega, fun j h1 h2 => by omega, rfl, rfl⟩ ?_
  rintro n st ⟨k, hk, hgt, hnk, rfl⟩
  have hsl : (shfK (ipl xs i) k (i : Nat)).length = i + 1 := by rw [shfK, insK_len _ _ (by omega), hpl]
  have hsb : (bkp xs (shfK (ipl xs i) k (i : Nat))).length = i + 1 := by rw [bkp_len, hsl]
  have hbm := bkp_mem hv (shfK_rng (N := xs.length) (k := k) (by omega) (ipl_all xs hii) hlti)
  refine awp_seq ?_
  refine awp_seq ?_
  refine awp_draw T0_ok hP hm hN Pr_mix [0, 1, 2, 3, 4, 5, 6, 7, 8, 9, 10, 11] [11] _ rfl (by rfl) ?_
  iterate 3 refine d1 T0_ok ?_
  iterate 7 refine dg1 T0_ok ?_
  refine dg1 T0_ok ?_ (hs := by intro hb; simp +decide only [hb, gd_tt, gd_ff, beq_self_eq_true, Bool.true_and, beq_true]; exact ⟨_, by first | rfl | exact astep_load_r (by rfl) (by rfl) (by exact i64s_get _ _ (by omega)) (by rfl) | exact astep_load_r (by rfl) (by rfl) (by first | exact bks_get _ _ (by omega) | exact pls_get _ _ (by omega) | exact ints_get _ _ _ (by omega) | exact boolD_get _ _ (by omega) | exact i64ss_get _ _ (by omega) | assumption) (by rfl) | exact astep_store_p (by rfl) (by rfl) (by rfl) (by rfl) (by exact i64s_get _ _ (by omega)), by exact ⟨rfl, (by simp at hb; omega), by (try simp only [List.length_map]); omega⟩⟩)
  refine dgp1 ?_ (hr := by intro hb; simp +decide only [hb, gd_tt, gd_ff, beq_self_eq_true, Bool.true_and, beq_true]; exact ⟨_, call1 ok_S_l01Compare (usualO, (_, _, _, 0, xs.getD i bk0), (_, _, _, 0, (bkp xs (shfK (ipl xs i) k (i : Nat))).getD (k - 1) bk0), false) [] (hpre := by (try dsimp only); exact ⟨by decide, by simp, ⟨bks_get _ _ (by omega), hv _ (getD_mem' (by omega))⟩, ⟨bks_get _ _ (by omega), hbm _ (getD_mem' (by omega))⟩⟩), rfl, rfl, rfl⟩)
  refine dg1 T0_ok ?_
  refine d1 T0_ok ?_
  refine dreg_nil ?_
  refine awp_cond rfl (fun hc1 => ?_) (fun hc1 => ?_)
  ·
   simp only [Bool.and_eq_true, decide_eq_true_eq] at hc1
   have hk0 : 0 < k := by omega
   have hcm := shf_cmp xs (ipl xs i) (i : Nat) hk0 (by omega)
   have hcj : cP xs (i : Nat) ((ipl xs i).getD (k - 1) 0) < 0 := by
     have h := hc1.2
     rw [hcm] at h
     exact h
   have hstep : bks (bkp xs (shfK (ipl xs i) (k - 1) (i : Nat))) = (bks (bkp xs (shfK (ipl xs i) k (i : Nat)))).set k (bkRow ((bkp xs (shfK (ipl xs i) k (i : Nat))).getD (k - 1) bk0)) := by
     rw [← bks_set, hcm, bkp_set, shf_step _ _ hk0 (by omega)]
   have hgt2 : ∀ j, k - 1 ≤ j → j < i → cP xs (i : Nat) ((ipl xs i).getD j 0) < 0 := fun j h1 h2 => by
     by_cases e : j = k - 1
     · rw [e]; exact hcj
     · exact hgt j (by omega) h2
   refine awp_skip ?_
   refine awp_block ?_
   refine awp_seq ?_
   refine r1 T0_ok hP hm hN ?_
   iterate 9 refine g1 ?_
   refine r1 T0_ok hP hm hN ?_
   iterate 3 refine g1 ?_
   refine ⟨k - 1, _, by omega, (by rw [← hstep]; exact weak_sl (sub_cons rfl (sub_cons rfl (sub_cons rfl (sub_cons rfl (sub_cons rfl (sub_nil))))))), k - 1, by omega, hgt2, rfl, rfl⟩
  ·
   have hstop : k = 0 ∨ ¬ cP xs (i : Nat) ((ipl xs i).getD (k - 1) 0) < 0 := by
     rcases Nat.eq_zero_or_pos k with h | h
     · exact .inl h
     · right
       intro hlt
       have hcm := shf_cmp xs (ipl xs i) (i : Nat) h (by omega)
       have hd : decide ((k : Int) > 0) = true := by simp; omega
       rw [hcm, hd, Bool.true_and] at hc1
       simp only [decide_eq_false_iff_not] at hc1
       exact hc1 hlt
   have hfin : bks (bkp xs (ipl xs (i + 1))) = (bks (bkp xs (shfK (ipl xs i) k (i : Nat)))).set k (bkRow (xs.getD i bk0)) := by
     have e : bkp xs ((shfK (ipl xs i) k (i : Nat)).set k (i : Nat)) = (bkp xs (shfK (ipl xs i) k (i : Nat))).set k (xs.getD i bk0) := by rw [← bkp_set]; rfl
     rw [← bks_set, ← e, shfK, set_insK _ _ _ (by omega), ins_srt xs hk hgt hstop]
   refine awp_exit ?_
   repeat refine thenA_exit ?_
   refine blockA_hit ?_
   refine r1 T0_ok hP hm hN ?_
   iterate 8 refine g1 ?_
   refine r1 T0_ok hP hm hN ?_
   iterate 3 refine g1 ?_
   refine ⟨xs.length - (i + 1), _, by omega, (by rw [← hfin]; exact weak_sl (sub_cons rfl (sub_cons rfl (sub_cons rfl (sub_cons rfl (sub_nil)))))), i + 1, by omega, rfl, rfl⟩
 ·
  have hgei : ¬ i < xs.length := by simpa using hc0
  have heqi : i = xs.length := by omega
  have hsr : srtB xs = bkp xs (ipl xs i) := by rw [heqi]; rfl
  refine awp_exit ?_
  repeat refine thenA_exit ?_
  refine blockA_hit ?_
  refine awp_seq ?_
  refine r1 T0_ok hP hm hN ?_
  iterate 2 refine g1 ?_
  refine awp_ret ?_
  refine fin_mk [0] rfl rfl ?_ (by simp only [hsr]; exact objs_cons rfl rfl rfl rfl rfl (.inl rfl) objs_nil) (by decide)
  rfl
end Go.Proofs.YtpdkhlpmiblflaaGreat.Abs

