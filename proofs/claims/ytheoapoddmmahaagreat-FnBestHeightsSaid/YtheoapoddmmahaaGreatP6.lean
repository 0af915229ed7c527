import Derived.Test.YtheoapoddmmahaaGreatP5
set_option linter.unusedVariables false
set_option linter.unusedSimpArgs false
namespace Go.Proofs.YtheoapoddmmahaaGreat.Abs
open Go Go.RowKit

theorem tn1 (j : Nat) : ((j : Int) - 1).toNat = j - 1 := by omega
theorem natsub1 {a : Nat} (h : 1 ≤ a) : (a : Int) - 1 = ((a - 1 : Nat) : Int) := by omega
theorem bks_app' (xs ys : List Bk) : bks (xs ++ ys) = bks xs ++ bks ys := by simp
theorem ext_getD {α : Type} {d : α} {l l' : List α} (h : l.length = l'.length) (he : ∀ j, j < l.length → l.getD j d = l'.getD j d) : l = l' := by
  apply List.ext_getElem h
  intro j h1 h2
  have := he j h1
  simpa [List.getD, h1, h2] using this
def insK (L : List Bk) (k : Nat) (x : Bk) : List Bk := L.take k ++ x :: L.drop k
theorem insK_len (L : List Bk) {k : Nat} (x : Bk) (h : k ≤ L.length) : (insK L k x).length = L.length + 1 := by
  simp only [insK, List.length_append, List.length_cons, List.length_take, List.length_drop]; omega
theorem insK_mem {L : List Bk} {k : Nat} {x b : Bk} (h : b ∈ insK L k x) : b = x ∨ b ∈ L := by
  rcases List.mem_append.1 h with h | h
  · exact .inr (List.mem_of_mem_take h)
  · rcases List.mem_cons.1 h with h | h
    · exact .inl h
    · exact .inr (List.mem_of_mem_drop h)
def shfK (L : List Bk) (k : Nat) (x : Bk) : List Bk := insK L k (if k < L.length then L.getD k bk0 else x)
theorem shfK_end (L : List Bk) (x : Bk) : shfK L L.length x = L ++ [x] := by simp [shfK, insK]
theorem getD_insK (L : List Bk) {k : Nat} (x : Bk) (hk : k ≤ L.length) (j : Nat) : (insK L k x).getD j bk0 = if j < k then L.getD j bk0 else if j = k then x else L.getD (j - 1) bk0 := by
  unfold insK
  by_cases h1 : j < k
  · rw [if_pos h1]
    simp only [List.getD, List.getElem?_append_left (show j < (L.take k).length by rw [List.length_take]; omega), List.getElem?_take, if_pos h1]
  · rw [if_neg h1]
    have hl : (L.take k).length = k := by rw [List.length_take]; omega
    by_cases h2 : j = k
    · rw [if_pos h2]
      subst h2
      rw [List.getD, List.getElem?_append_right (by omega), hl, Nat.sub_self]
      rfl
    · rw [if_neg h2]
      simp only [List.getD, List.getElem?_append_right (show (L.take k).length ≤ j by omega), hl]
      obtain ⟨m, hm⟩ : ∃ m, j - k = m + 1 := ⟨j - k - 1, by omega⟩
      rw [hm, List.getElem?_cons_succ, List.getElem?_drop, show k + m = j - 1 by omega]
theorem set_insK (L : List Bk) {k : Nat} (x y : Bk) (hk : k ≤ L.length) : (insK L k x).set k y = insK L k y := by
  unfold insK
  have hl : (L.take k).length = k := by rw [List.length_take]; omega
  rw [List.set_append, if_neg (by omega), hl, Nat.sub_self]
  rfl
theorem shf_step (L : List Bk) {k : Nat} (x : Bk) (h0 : 0 < k) (hk : k ≤ L.length) : (shfK L k x).set k (L.getD (k - 1) bk0) = shfK L (k - 1) x := by
  unfold shfK
  rw [set_insK _ _ _ hk, if_pos (by omega)]
  apply ext_getD (d := bk0)
  · rw [insK_len _ _ hk, insK_len _ _ (by omega)]
  · intro j _
    rw [getD_insK _ _ hk, getD_insK _ _ (by omega)]
    by_cases h1 : j < k - 1
    · rw [if_pos (by omega), if_pos h1]
    · rw [if_neg h1]
      by_cases h2 : j = k - 1
      · rw [if_pos (by omega), if_pos h2, h2]
      · rw [if_neg h2]
        by_cases h3 : j = k
        · rw [if_neg (by omega), if_pos h3, h3]
        · rw [if_neg (by omega), if_neg h3]
theorem shfK_mem {L : List Bk} {k : Nat} {x b : Bk} (h : b ∈ shfK L k x) : b = x ∨ b ∈ L := by
  rcases insK_mem h with h | h
  · split at h
    · rename_i hlt; rw [h]; exact .inr (getD_mem' hlt)
    · exact .inl h
  · exact .inr h
def posF (L : List Bk) (x : Bk) : Nat → Nat
  | 0 => 0
  | k + 1 => if cmpU x (L.getD k bk0) < 0 then posF L x k else k + 1
theorem posF_le (L : List Bk) (x : Bk) : ∀ k, posF L x k ≤ k
  | 0 => Nat.le_refl _
  | k + 1 => by
    rw [posF]
    split
    · have := posF_le L x k; omega
    · exact Nat.le_refl _
def isL (xs : List Bk) : Nat → List Bk
  | 0 => []
  | i + 1 => insK (isL xs i) (posF (isL xs i) (xs.getD i bk0) (isL xs i).length) (xs.getD i bk0)
theorem isL_len (xs : List Bk) : ∀ i, (isL xs i).length = i
  | 0 => rfl
  | i + 1 => by rw [isL, insK_len _ _ (posF_le _ _ _), isL_len xs i]
theorem isL_mem (xs : List Bk) : ∀ i, i ≤ xs.length → ∀ b ∈ isL xs i, b ∈ xs
  | 0, _, b, h => by cases h
  | i + 1, hi, b, h => by
    rw [isL] at h
    rcases insK_mem h with h | h
    · rw [h]; exact getD_mem' (by omega)
    · exact isL_mem xs i (by omega) b h
def srtB (xs : List Bk) : List Bk := isL xs xs.length
theorem srtB_len (xs : List Bk) : (srtB xs).length = xs.length := isL_len xs _
theorem srtB_mem {xs : List Bk} {b : Bk} (h : b ∈ srtB xs) : b ∈ xs := isL_mem xs _ (Nat.le_refl _) b h

noncomputable abbrev s_S_l01Sorted : Spec (List Bk) where
  args := fun xs => [.sl 1 (ints .i8 usualO), .sl 8 (bks xs)]
  pre := fun xs => (∀ b ∈ xs, isBk b) ∧ xs.length ≤ 1048576
  new := fun xs => [⟨41, 8, false, bks (srtB xs)⟩]
  res := fun xs => .own 0

set_option maxRecDepth 20000 in
set_option maxHeartbeats 4000000 in
theorem ok_S_l01Sorted : FnOk Pr 66 s_S_l01Sorted := by
 refine fn_ok 2 0 T0_ok Go.Proofs.Tryz.func66 rfl (enters_of Go.Proofs.Tryz.func66 rfl rfl) (fun _ => rfl) (fun _ => rfl) (fun _ => rfl) ?_
 rintro xs ⟨hv, hl⟩ C hP hN hm hG
 change awp C _ _ ⟨[(0, .sl 1 (ints .i8 usualO)), (1, .sl 8 (bks xs))], [], 0⟩
 have xn1 := And.intro @bks_set (And.intro @tn1 (@natsub1))
 refine awp_seq ?_
 refine r1 T0_ok hP hm hN ?_
 refine g1 ?_
 refine awp_seq ?_
 refine r1 T0_ok hP hm hN ?_
 iterate 2 refine g1 ?_
 refine awp_seq ?_
 refine awp_seq ?_
 refine r1 T0_ok hP hm hN ?_
 refine g1 ?_
 refine awp_block ?_
 refine awp_loop (fun n st => ∃ i : Nat, i ≤ xs.length ∧ n = xs.length - i ∧ st = ⟨[(6, .val (.int .i64 ((i : Nat) : Int))), (5, .own 0), (0, .sl 1 (ints .i8 usualO)), (1, .sl 8 (bks xs))], [(0, ⟨41, 8, false, bks (isL xs i)⟩)], 1⟩) (xs.length) ⟨_, weak_sl (sub_cons rfl (sub_cons rfl (sub_cons rfl (sub_cons rfl (sub_nil))))), 0, by omega, rfl, rfl⟩ ?_
 rintro n st ⟨i, hii, hni, rfl⟩
 have hbl := isL_len xs i
 refine awp_seq ?_
 refine awp_seq ?_
 refine r1 T0_ok hP hm hN ?_
 iterate 4 refine g1 ?_
 refine awp_cond rfl (fun hc0 => ?_) (fun hc0 => ?_)
 ·
  have hlti : i < xs.length := by simpa using hc0
  refine awp_skip ?_
  refine awp_seq ?_
  refine awp_block ?_
  refine awp_seq ?_
  refine r1 T0_ok hP hm hN ?_
  iterate 3 refine g1 ?_
  refine awp_seq ?_
  refine r1 T0_ok hP hm hN ?_
  iterate 6 refine g1 ?_
  refine ga1 ?_
  refine g1 ?_
  refine awp_seq ?_
  refine awp_block ?_
  have hgi : xs.getD i bk0 = (shfK (isL xs i) i (xs.getD i bk0)).getD i bk0 := by
    rw [shfK, getD_insK _ _ (by omega), if_neg (by omega), if_pos rfl, if_neg (by omega)]
  have hst0 : bks (shfK (isL xs i) i (xs.getD i bk0)) = bks (isL xs i) ++ [bkRow (xs.getD i bk0)] := by
    have e := shfK_end (isL xs i) (xs.getD i bk0)
    rw [hbl] at e
    rw [e, bks_app']
    rfl
  refine awp_loop (fun n st => ∃ k : Nat, k ≤ i ∧ posF (isL xs i) (xs.getD i bk0) k = posF (isL xs i) (xs.getD i bk0) i ∧ n = k ∧ st = ⟨[(7, .val (.int .i64 ((k : Nat) : Int))), (6, .val (.int .i64 ((i : Nat) : Int))), (5, .own 0), (0, .sl 1 (ints .i8 usualO)), (1, .sl 8 (bks xs))], [(0, ⟨41, 8, false, bks (shfK (isL xs i) k (xs.getD i bk0))⟩)], 1⟩) i ⟨_, (by
    rw [hst0, hbl]
    exact Weak.trans (weak_drop 1) (Weak.trans (weak_nx (nx' := 1) (by omega) (by rfl)) (weak_sl (sub_cons rfl (sub_cons rfl (sub_cons rfl (sub_cons rfl (sub_cons rfl (sub_nil))))))))), i, by omega, rfl, rfl, rfl⟩ ?_
  rintro n st ⟨k, hk, hpos, hnk, rfl⟩
  have hsl : (shfK (isL xs i) k (xs.getD i bk0)).length = i + 1 := by rw [shfK, insK_len _ _ (by omega), hbl]
  have hbm : ∀ b ∈ shfK (isL xs i) k (xs.getD i bk0), isBk b := fun b hb => by
    rcases shfK_mem hb with h | h
    · rw [h]; exact hv _ (getD_mem' hlti)
    · exact hv _ (isL_mem xs i hii b h)
  have hcm : 0 < k → (shfK (isL xs i) k (xs.getD i bk0)).getD (k - 1) bk0 = (isL xs i).getD (k - 1) bk0 := fun h => by
    rw [shfK, getD_insK _ _ (by omega), if_pos (by omega)]
  refine awp_seq ?_
  refine awp_seq ?_
  refine awp_draw T0_ok hP hm hN Pr_mix [0, 1, 2, 3, 4, 5, 6, 7, 8, 9, 10, 11] [11] _ rfl (by rfl) ?_
  iterate 3 refine d1 T0_ok ?_
  iterate 7 refine dg1 T0_ok ?_
  refine dg1 T0_ok ?_ (hs := by intro hb; simp +decide only [hb, gd_tt, gd_ff, beq_self_eq_true, Bool.true_and, beq_true]; exact ⟨_, by first | rfl | exact astep_load_r (by rfl) (by rfl) (by exact i64s_get _ _ (by omega)) (by rfl) | exact astep_load_r (by rfl) (by rfl) (by first | exact bks_get _ _ (by omega) | exact pls_get _ _ (by omega) | exact ints_get _ _ _ (by omega) | exact boolD_get _ _ (by omega) | exact i64ss_get _ _ (by omega) | assumption) (by rfl) | exact astep_store_p (by rfl) (by rfl) (by rfl) (by rfl) (by exact i64s_get _ _ (by omega)), by exact ⟨rfl, (by simp at hb; omega), by (try simp only [List.length_map]); omega⟩⟩)
  refine dgp1 ?_ (hr := by intro hb; simp +decide only [hb, gd_tt, gd_ff, beq_self_eq_true, Bool.true_and, beq_true]; exact ⟨_, call1 ok_S_l01Compare (usualO, (_, _, _, 0, xs.getD i bk0), (_, _, _, 0, (shfK (isL xs i) k (xs.getD i bk0)).getD (k - 1) bk0), false) [] (hpre := by (try dsimp only); exact ⟨by decide, by simp, ⟨bks_get _ _ (by omega), hv _ (getD_mem' (by omega))⟩, ⟨bks_get _ _ (by omega), hbm _ (getD_mem' (by omega))⟩⟩), rfl, rfl, rfl⟩)
  refine dg1 T0_ok ?_
  refine d1 T0_ok ?_
  refine dreg_nil ?_
  refine awp_cond rfl (fun hc1 => ?_) (fun hc1 => ?_)
  ·
   simp only [Bool.and_eq_true, decide_eq_true_eq] at hc1
   have hk0 : 0 < k := by omega
   have hcj : cmpU (xs.getD i bk0) ((isL xs i).getD (k - 1) bk0) < 0 := by
     have h := hc1.2
     rw [hcm hk0] at h
     exact h
   have hstep : bks (shfK (isL xs i) (k - 1) (xs.getD i bk0)) = (bks (shfK (isL xs i) k (xs.getD i bk0))).set k (bkRow ((shfK (isL xs i) k (xs.getD i bk0)).getD (k - 1) bk0)) := by
     rw [← bks_set, hcm hk0, shf_step _ _ hk0 (by omega)]
   have hpos2 : posF (isL xs i) (xs.getD i bk0) (k - 1) = posF (isL xs i) (xs.getD i bk0) i := by
     obtain ⟨q, rfl⟩ : ∃ q, k = q + 1 := ⟨k - 1, by omega⟩
     have hcj2 : cmpU (xs.getD i bk0) ((isL xs i).getD q bk0) < 0 := hcj
     rw [← hpos, posF, if_pos hcj2]
     rfl
   refine awp_skip ?_
   refine awp_block ?_
   refine awp_seq ?_
   refine r1 T0_ok hP hm hN ?_
   iterate 9 refine g1 ?_
   refine r1 T0_ok hP hm hN ?_
   iterate 3 refine g1 ?_
   refine ⟨k - 1, _, by omega, (by rw [← hstep]; exact weak_sl (sub_cons rfl (sub_cons rfl (sub_cons rfl (sub_cons rfl (sub_cons rfl (sub_nil))))))), k - 1, by omega, hpos2, rfl, rfl⟩
  ·
   have hstop : posF (isL xs i) (xs.getD i bk0) i = k := by
     rcases Nat.eq_zero_or_pos k with h | h
     · rw [← hpos, h]; rfl
     · obtain ⟨q, rfl⟩ : ∃ q, k = q + 1 := ⟨k - 1, by omega⟩
       rw [← hpos, posF, if_neg]
       intro hlt
       have hd : decide (((q + 1 : Nat) : Int) > 0) = true := by simp only [decide_eq_true_eq]; omega
       rw [hcm h, hd, Bool.true_and] at hc1
       simp only [decide_eq_false_iff_not] at hc1
       exact hc1 hlt
   have hfin : bks (isL xs (i + 1)) = (bks (shfK (isL xs i) k (xs.getD i bk0))).set k (bkRow (xs.getD i bk0)) := by
     rw [← bks_set, shfK, set_insK _ _ _ (by omega), isL, hbl, hstop]
   refine awp_exit ?_
   repeat refine thenA_exit ?_
   refine blockA_hit ?_
   refine r1 T0_ok hP hm hN ?_
   iterate 8 refine g1 ?_
   refine r1 T0_ok hP hm hN ?_
   iterate 3 refine g1 ?_
   refine ⟨xs.length - (i + 1), _, by omega, (by rw [← hfin]; exact weak_sl (sub_cons rfl (sub_cons rfl (sub_cons rfl (sub_cons rfl (sub_nil)))))), i + 1, by omega, rfl, rfl⟩
 ·
  have hgei : ¬ i < xs.length := by simpa using hc0
  have heqi : i = xs.length := by omega
  have hsr : srtB xs = isL xs i := by rw [heqi]; rfl
  refine awp_exit ?_
  repeat refine thenA_exit ?_
  refine blockA_hit ?_
  refine awp_seq ?_
  refine r1 T0_ok hP hm hN ?_
  iterate 2 refine g1 ?_
  refine awp_ret ?_
  refine fin_mk [0] rfl rfl ?_ (by simp only [hsr]; exact objs_cons rfl rfl rfl rfl rfl (.inl rfl) objs_nil) (by decide)
  rfl
end Go.Proofs.YtheoapoddmmahaaGreat.Abs

