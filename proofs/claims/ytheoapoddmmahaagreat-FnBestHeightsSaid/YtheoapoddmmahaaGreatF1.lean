import Derived.Test.YtheoapoddmmahaaGreatE8
set_option linter.unusedVariables false
set_option linter.unusedSimpArgs false
namespace Go.Proofs.YtheoapoddmmahaaGreat.Abs
open Go Go.RowKit
def selK (f : Nat → Int) (k : Nat) : Nat → List Int
  | 0 => []
  | i + 1 => if f i = (k : Int) then selK f k i ++ [(i : Int)] else selK f k i
def grpF (f : Nat → Int) (n i : Nat) : List (List Int) := (List.range n).map fun k => selK f k i
theorem grpF_len (f : Nat → Int) (n i : Nat) : (grpF f n i).length = n := by simp [grpF]
theorem grpF_get {f : Nat → Int} {n i k : Nat} (h : k < n) : (grpF f n i).getD k [] = selK f k i := by simp [grpF, List.getD, h]
theorem selK_b (f : Nat → Int) (k : Nat) : ∀ i, ∀ x ∈ selK f k i, 0 ≤ x ∧ x < i
  | 0, x, h => by simp [selK] at h
  | i + 1, x, h => by
    rw [selK] at h
    split at h
    · rcases List.mem_append.1 h with h | h
      · have := selK_b f k i x h; omega
      · simp at h; omega
    · have := selK_b f k i x h; omega
theorem selK_len (f : Nat → Int) (k : Nat) : ∀ i, (selK f k i).length ≤ i
  | 0 => Nat.le_refl _
  | i + 1 => by
    have := selK_len f k i
    rw [selK]
    split
    · simp; omega
    · omega
def sumF (w : Int → Int) (l : List Int) : Nat → Int
  | 0 => 0
  | k + 1 => sumF w l k + w (l.getD k 0)
theorem sumF_app (w : Int → Int) (l q : List Int) : ∀ k, k ≤ l.length → sumF w (l ++ q) k = sumF w l k
  | 0, _ => rfl
  | k + 1, h => by
    rw [sumF, sumF, sumF_app w l q k (by omega)]
    congr 2
    rw [List.getD, List.getD, List.getElem?_append_left (by omega)]
theorem sumF_snoc (w : Int → Int) (l : List Int) (x : Int) : sumF w (l ++ [x]) (l ++ [x]).length = sumF w l l.length + w x := by
  rw [show (l ++ [x]).length = l.length + 1 by simp, sumF, sumF_app w l [x] _ (Nat.le_refl _)]
  congr 2
  simp [List.getD]
def sumG (w : Nat → Int → Int) (gs : List (List Int)) : Nat → Int
  | 0 => 0
  | k + 1 => sumG w gs k + sumF (w k) (gs.getD k []) (gs.getD k []).length
def sumA (w : Nat → Int → Int) (f : Nat → Int) : Nat → Int
  | 0 => 0
  | i + 1 => sumA w f i + w (f i).toNat i
theorem sumG_0 (w : Nat → Int → Int) (f : Nat → Int) (n : Nat) : ∀ k, k ≤ n → sumG w (grpF f n 0) k = 0
  | 0, _ => rfl
  | k + 1, h => by
    rw [sumG, sumG_0 w f n k (by omega), grpF_get (by omega)]
    rfl
theorem sumG_step {w : Nat → Int → Int} {f : Nat → Int} {n i kk : Nat} (hk : kk < n) (e : f i = (kk : Int)) : ∀ k, k ≤ n → sumG w (grpF f n (i + 1)) k = sumG w (grpF f n i) k + (if kk < k then w kk i else 0)
  | 0, _ => by simp [sumG]
  | k + 1, h => by
    have ih := sumG_step (w := w) (f := f) (n := n) (i := i) hk e k (by omega)
    rw [sumG, sumG, ih, grpF_get (by omega), grpF_get (by omega)]
    by_cases ek : kk = k
    · subst ek
      have e2 : selK f kk (i + 1) = selK f kk i ++ [(i : Int)] := by
        rw [selK]; exact if_pos e
      rw [e2, sumF_snoc, if_neg (by omega), if_pos (by omega)]
      omega
    · have e2 : selK f k (i + 1) = selK f k i := by
        rw [selK]; exact if_neg (fun h2 => ek (by omega))
      rw [e2]
      by_cases hlt : kk < k
      · rw [if_pos hlt, if_pos (by omega)]; omega
      · rw [if_neg hlt, if_neg (by omega)]; omega
theorem sumG_sumA {w : Nat → Int → Int} {f : Nat → Int} {n : Nat} : ∀ i, (∀ j, j < i → 0 ≤ f j ∧ f j < n) → sumG w (grpF f n i) n = sumA w f i
  | 0, _ => sumG_0 w f n n (Nat.le_refl _)
  | i + 1, h => by
    have ih := sumG_sumA (w := w) (f := f) (n := n) i (fun j hj => h j (by omega))
    have hi := h i (by omega)
    rw [sumG_step (kk := (f i).toNat) (by omega) (by omega) n (Nat.le_refl _), if_pos (by omega), ih, sumA]

theorem i64s_app4 (xs ys : List Int) : i64s (xs ++ ys) = i64s xs ++ i64s ys := by simp
theorem i64ss_app (xs ys : List (List Int)) : i64ss (xs ++ ys) = i64ss xs ++ i64ss ys := by simp
def gF (hs : List Int) (bs : List Bk) (i : Nat) : Int := fstOf (isHigh (bs.getD i bk0).high) hs
theorem gF_b (hs : List Int) (bs : List Bk) (i : Nat) : 0 ≤ gF hs bs i ∧ gF hs bs i ≤ hs.length := fstOf_lt _ _
theorem gF_idx {hs : List Int} {bs : List Bk} {i h : Nat} (hh : h < hs.length) : (idxOf (isHigh (bs.getD i bk0).high) hs == (h : Int)) = decide (gF hs bs i = (h : Int)) := by
  have h1 := idxOf_lt (isHigh (bs.getD i bk0).high) hs
  rw [Bool.eq_iff_iff, beq_iff_eq, decide_eq_true_eq]
  unfold gF fstOf
  split <;> omega
theorem gF_neg (hs : List Int) (bs : List Bk) (i : Nat) : decide (idxOf (isHigh (bs.getD i bk0).high) hs < 0) = (gF hs bs i == (hs.length : Int)) := (fstOf_none _ _).symm
def allG (hs : List Int) (bs : List Bk) : Prop := ∀ j, j < bs.length → (gF hs bs j == (hs.length : Int)) = false
theorem allG_lt {hs : List Int} {bs : List Bk} (h : allG hs bs) (j : Nat) (hj : j < bs.length) : 0 ≤ gF hs bs j ∧ gF hs bs j < hs.length := by
  have h1 := gF_b hs bs j
  have h2 := h j hj
  simp only [beq_eq_false_iff_ne, ne_eq] at h2
  omega
abbrev grpL (hs : List Int) (bs : List Bk) : List (List Int) := grpF (gF hs bs) hs.length bs.length
noncomputable def grpR (hs : List Int) (bs : List Bk) : List (List Int) × Bool := if ask (allG hs bs) then (grpL hs bs, true) else ([], false)
theorem selK_yes {f : Nat → Int} {k i : Nat} (h : f i = (k : Int)) : selK f k (i + 1) = selK f k i ++ [(i : Int)] := by rw [selK]; exact if_pos h
theorem selK_no {f : Nat → Int} {k i : Nat} (h : ¬ f i = (k : Int)) : selK f k (i + 1) = selK f k i := by rw [selK]; exact if_neg h
theorem grpF_suc (f : Nat → Int) (n i : Nat) : grpF f (n + 1) i = grpF f n i ++ [selK f n i] := by simp [grpF, List.range_succ]

noncomputable abbrev s_S_l04All : Spec (List Int × List Bk) where
  args := fun x => [.sl 1 (i64s x.1), .sl 8 (bks x.2)]
  pre := fun x => (∀ b ∈ x.2, isBk b) ∧ x.2.length ≤ 1048576 ∧ x.1.length ≤ 1048576
  res := fun x => .val (.bool (ask (allG x.1 x.2)))

set_option maxRecDepth 20000 in
set_option maxHeartbeats 1000000 in
theorem ok_S_l04All : FnOk Pr 48 s_S_l04All := by
 refine fn_ok 2 0 T0_ok Go.Proofs.Tryz.func48 rfl (enters_of Go.Proofs.Tryz.func48 rfl rfl) (fun _ => rfl) (fun _ => rfl) (fun _ => rfl) ?_
 rintro ⟨hs, bs⟩ ⟨hv, hl, hhl⟩ C hP hN hm hG
 change awp C _ _ ⟨[(0, .sl 1 (i64s hs)), (1, .sl 8 (bks bs))], [], 0⟩
 simp only at hv hl hhl
 refine awp_seq ?_
 refine r1 T0_ok hP hm hN ?_
 refine g1 ?_
 refine awp_seq ?_
 refine awp_seq ?_
 refine r1 T0_ok hP hm hN ?_
 refine g1 ?_
 refine awp_block ?_
 refine awp_loop (fun n st => ∃ i : Nat, i ≤ bs.length ∧ (∀ j, j < i → (gF hs bs j == (hs.length : Int)) = false) ∧ n = bs.length - i ∧ st = ⟨[(5, .val (.int .i64 ((i : Nat) : Int))), (0, .sl 1 (i64s hs)), (1, .sl 8 (bks bs))], [], 0⟩) (bs.length) ⟨_, weak_sl (sub_cons rfl (sub_cons rfl (sub_cons rfl (sub_nil)))), 0, by omega, fun j h => by omega, rfl, rfl⟩ ?_
 rintro n st ⟨i, hii, hall, hni, rfl⟩
 refine awp_seq ?_
 refine awp_seq ?_
 refine r1 T0_ok hP hm hN ?_
 iterate 4 refine g1 ?_
 refine awp_cond rfl (fun hc0 => ?_) (fun hc0 => ?_)
 ·
  have hlti : i < bs.length := by simpa using hc0
  refine awp_skip ?_
  refine awp_seq ?_
  refine awp_block ?_
  refine awp_seq ?_
  refine r1 T0_ok hP hm hN ?_
  iterate 4 refine g1 ?_
  refine gc1 ?_ (call1 ok_S_l04For (_, _, _, _, bs.getD i bk0) [] (hpre := by (try dsimp only); exact ⟨by omega, bks_get _ _ (by omega), hv _ (getD_mem' (by omega))⟩))
  refine g1 ?_
  refine awp_cond rfl (fun hc1 => ?_) (fun hc1 => ?_)
  ·
   refine awp_seq ?_
   refine r1 T0_ok hP hm hN ?_
   refine g1 ?_
   refine awp_ret ?_
   refine fin_mk [] rfl rfl ?_ trivial (by decide)
   show D.val (.bool (ask (allG hs bs))) = _
   rw [ask_false (fun h => by rw [gF_neg] at hc1; have := h i hlti; rw [hc1] at this; cases this)]
   rfl
  ·
   refine awp_skip ?_
   refine r1 T0_ok hP hm hN ?_
   iterate 3 refine g1 ?_
   refine ⟨bs.length - (i + 1), _, by omega, weak_sl (sub_cons rfl (sub_cons rfl (sub_cons rfl (sub_nil)))), i + 1, by omega, upto_step hall (by rw [gF_neg] at hc1; exact hc1), rfl, rfl⟩
 ·
  have hgei : ¬ i < bs.length := by simpa using hc0
  have heqi : i = bs.length := by omega
  refine awp_exit ?_
  repeat refine thenA_exit ?_
  refine blockA_hit ?_
  refine awp_seq ?_
  refine r1 T0_ok hP hm hN ?_
  refine g1 ?_
  refine awp_ret ?_
  refine fin_mk [] rfl rfl ?_ trivial (by decide)
  show D.val (.bool (ask (allG hs bs))) = _
  rw [ask_true (show allG hs bs from fun j hj => hall j (by omega))]
  rfl

noncomputable abbrev s_S_l04Groups : Spec (List Int × List Bk) where
  args := fun x => [.sl 1 (i64s x.1), .sl 8 (bks x.2)]
  pre := fun x => (∀ b ∈ x.2, isBk b) ∧ x.2.length ≤ 1048576 ∧ x.1.length ≤ 1048576
  new := fun x => [⟨31, 1, false, i64ss (grpL x.1 x.2)⟩]
  res := fun x => .own 0

set_option maxRecDepth 20000 in
set_option maxHeartbeats 4000000 in
theorem ok_S_l04Groups : FnOk Pr 92 s_S_l04Groups := by
 refine fn_ok0 2 T0_ok Go.Proofs.Tryz.func92 rfl (enters_of Go.Proofs.Tryz.func92 rfl rfl) (fun _ => rfl) (fun _ => rfl) (fun _ => rfl) ?_
 rintro ⟨hs, bs⟩ ⟨hv, hl, hhl⟩ C hP hN hm hG hS0
 change awp C _ _ ⟨[(0, .sl 1 (i64s hs)), (1, .sl 8 (bks bs))], [], 0⟩
 simp only at hv hl hhl
 refine awp_seq ?_
 refine r1 T0_ok hP hm hN ?_
 refine g1 ?_
 refine awp_seq ?_
 refine r1 T0_ok hP hm hN ?_
 refine g1 ?_ (hst := by simp +decide (disch := omega) only [nrm, lk_nrm, dc_nrm, mk_nrm, mf_nrm, ti_nrm, ls_nrm, mp_nrm, nb_nrm, hset, pick_and, pick_or, ↓reduceIte, Nat.reduceAdd, wI64, wI32, wI16, wI8, wU8, List.length_map, Int.toNat_natCast, xn1, xn2, List.all_nil, Bool.not_true]; rfl)
 refine g1 ?_
 refine awp_seq ?_
 refine awp_seq ?_
 refine r1 T0_ok hP hm hN ?_
 refine g1 ?_
 refine awp_block ?_
 refine awp_loop (fun n st => ∃ h : Nat, h ≤ hs.length ∧ n = hs.length - h ∧ st = ⟨[(6, .val (.int .i64 ((h : Nat) : Int))), (5, .own 0), (0, .sl 1 (i64s hs)), (1, .sl 8 (bks bs))], [(0, ⟨31, 1, false, i64ss (grpF (gF hs bs) h bs.length)⟩)], 1⟩) (hs.length) ⟨_, weak_sl (sub_cons rfl (sub_cons rfl (sub_cons rfl (sub_cons rfl (sub_nil))))), 0, by omega, rfl, rfl⟩ ?_
 rintro n st ⟨h, hih, hnh, rfl⟩
 have hgl := grpF_len (gF hs bs) h bs.length
 refine awp_seq ?_
 refine awp_seq ?_
 refine r1 T0_ok hP hm hN ?_
 iterate 4 refine g1 ?_
 refine awp_cond rfl (fun hc0 => ?_) (fun hc0 => ?_)
 ·
  have hlth : h < hs.length := by simpa using hc0
  refine awp_skip ?_
  refine awp_seq ?_
  refine awp_block ?_
  refine awp_seq ?_
  refine r1 T0_ok hP hm hN ?_
  refine g1 ?_ (hst := by simp +decide (disch := omega) only [nrm, lk_nrm, dc_nrm, mk_nrm, mf_nrm, ti_nrm, ls_nrm, mp_nrm, nb_nrm, hset, pick_and, pick_or, ↓reduceIte, Nat.reduceAdd, wI64, wI32, wI16, wI8, wU8, List.length_map, Int.toNat_natCast, xn1, xn2, List.all_nil, Bool.not_true]; rfl)
  refine g1 ?_
  refine awp_seq ?_
  refine awp_seq ?_
  refine r1 T0_ok hP hm hN ?_
  refine g1 ?_
  refine awp_block ?_
  refine awp_loop (fun n st => ∃ i : Nat, i ≤ bs.length ∧ n = bs.length - i ∧ st = ⟨[(8, .val (.int .i64 ((i : Nat) : Int))), (7, .own 1), (6, .val (.int .i64 ((h : Nat) : Int))), (5, .own 0), (0, .sl 1 (i64s hs)), (1, .sl 8 (bks bs))], [(1, ⟨2, 1, false, i64s (selK (gF hs bs) h i)⟩), (0, ⟨31, 1, false, i64ss ((grpF (gF hs bs) h bs.length))⟩)], 2⟩) (bs.length) ⟨_, weak_sl (sub_cons rfl (sub_cons rfl (sub_cons rfl (sub_cons rfl (sub_cons rfl (sub_cons rfl (sub_nil))))))), 0, by omega, rfl, rfl⟩ ?_
  rintro n st ⟨i, hii, hni, rfl⟩
  have hsl := selK_len (gF hs bs) h i
  refine awp_seq ?_
  refine awp_seq ?_
  refine r1 T0_ok hP hm hN ?_
  iterate 4 refine g1 ?_
  refine awp_cond rfl (fun hc1 => ?_) (fun hc1 => ?_)
  ·
   have hlti : i < bs.length := by simpa using hc1
   refine awp_skip ?_
   refine awp_seq ?_
   refine awp_block ?_
   refine awp_seq ?_
   refine r1 T0_ok hP hm hN ?_
   iterate 4 refine g1 ?_
   refine gc1 ?_ (call1 ok_S_l04For (_, _, _, _, bs.getD i bk0) [] (hpre := by (try dsimp only); exact ⟨by omega, bks_get _ _ (by omega), hv _ (getD_mem' (by omega))⟩))
   iterate 2 refine g1 ?_
   refine awp_cond rfl (fun hc2 => ?_) (fun hc2 => ?_)
   ·
    rw [gF_idx hlth] at hc2
    have hgy : gF hs bs i = (h : Int) := by simpa using hc2
    refine r1 T0_ok hP hm hN ?_
    iterate 3 refine g1 ?_
    refine ga1 ?_
    refine g1 ?_
    refine r1 T0_ok hP hm hN ?_
    iterate 3 refine g1 ?_
    first
      | exact ⟨bs.length - (i + 1), _, by omega, (by rw [selK_yes hgy, i64s_app4]; exact Weak.trans (weak_drop 2) (Weak.trans (weak_nx (nx' := 2) (by omega) (by rfl)) (weak_sl (sub_cons rfl (sub_cons rfl (sub_cons rfl (sub_cons rfl (sub_cons rfl (sub_cons rfl (sub_nil)))))))))), i + 1, by omega, rfl, rfl⟩
      | exact ⟨bs.length - (i + 1), _, by omega, (by rw [selK_no hgy]; exact weak_sl (sub_cons rfl (sub_cons rfl (sub_cons rfl (sub_cons rfl (sub_cons rfl (sub_cons rfl (sub_nil)))))))), i + 1, by omega, rfl, rfl⟩
   ·
    rw [gF_idx hlth] at hc2
    have hgy : ¬ gF hs bs i = (h : Int) := by simpa using hc2
    refine awp_skip ?_
    refine r1 T0_ok hP hm hN ?_
    iterate 3 refine g1 ?_
    first
      | exact ⟨bs.length - (i + 1), _, by omega, (by rw [selK_yes hgy, i64s_app4]; exact Weak.trans (weak_drop 2) (Weak.trans (weak_nx (nx' := 2) (by omega) (by rfl)) (weak_sl (sub_cons rfl (sub_cons rfl (sub_cons rfl (sub_cons rfl (sub_cons rfl (sub_cons rfl (sub_nil)))))))))), i + 1, by omega, rfl, rfl⟩
      | exact ⟨bs.length - (i + 1), _, by omega, (by rw [selK_no hgy]; exact weak_sl (sub_cons rfl (sub_cons rfl (sub_cons rfl (sub_cons rfl (sub_cons rfl (sub_cons rfl (sub_nil)))))))), i + 1, by omega, rfl, rfl⟩
  ·
   have hgei : ¬ i < bs.length := by simpa using hc1
   obtain rfl : i = bs.length := by omega
   refine awp_weak (show Weak C _ ⟨[(7, .sl 1 (i64s (selK (gF hs bs) h bs.length))), (6, .val (.int .i64 ((h : Nat) : Int))), (5, .own 0), (0, .sl 1 (i64s hs)), (1, .sl 8 (bks bs))], [(0, ⟨31, 1, false, i64ss (grpF (gF hs bs) h bs.length)⟩)], 2⟩ from Weak.trans (weak_frz 1 hS0 hG rfl (.inl rfl)) (weak_sl (sub_cons rfl (sub_cons rfl (sub_cons rfl (sub_cons rfl (sub_cons rfl (sub_nil)))))))) ?_
   refine awp_exit ?_
   repeat refine thenA_exit ?_
   refine blockA_hit ?_
   refine r1 T0_ok hP hm hN ?_
   iterate 3 refine g1 ?_
   refine ga1 ?_
   refine g1 ?_
   refine r1 T0_ok hP hm hN ?_
   iterate 3 refine g1 ?_
   refine ⟨hs.length - (h + 1), _, by omega, (by rw [grpF_suc, i64ss_app]; exact Weak.trans (weak_drop 2) (Weak.trans (weak_nx (nx' := 1) (by omega) (by rfl)) (weak_sl (sub_cons rfl (sub_cons rfl (sub_cons rfl (sub_cons rfl (sub_nil)))))))), h + 1, by omega, rfl, rfl⟩
 ·
  have hgeh : ¬ h < hs.length := by simpa using hc0
  have heqh : h = hs.length := by omega
  refine awp_exit ?_
  repeat refine thenA_exit ?_
  refine blockA_hit ?_
  refine awp_seq ?_
  refine r1 T0_ok hP hm hN ?_
  iterate 2 refine g1 ?_
  subst heqh
  refine awp_ret ?_
  refine fin_mk [0] rfl rfl ?_ (objs_cons rfl rfl rfl rfl rfl (.inl rfl) objs_nil) (by decide)
  rfl
end Go.Proofs.YtheoapoddmmahaaGreat.Abs

