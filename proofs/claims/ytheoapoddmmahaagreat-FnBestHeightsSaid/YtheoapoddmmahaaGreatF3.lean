import Derived.Test.YtheoapoddmmahaaGreatF2
set_option linter.unusedVariables false
set_option linter.unusedSimpArgs false
namespace Go.Proofs.YtheoapoddmmahaaGreat.Abs
open Go Go.RowKit
theorem validH_b2 {a b c : Int} {xs : List Int} (h : validH a b c xs = true) : (∀ n ∈ xs, 50 ≤ n ∧ n ≤ 1000) ∧ 1 ≤ xs.length ∧ xs.length ≤ 6 := by
  simp only [validH, Bool.and_eq_true] at h
  obtain ⟨⟨⟨h1, h2⟩, h3⟩, h4⟩ := h
  have h2 := inI_iff.1 h2
  obtain ⟨ha, -, -⟩ := pegsOk_iff.1 h1
  refine ⟨fun n hn => ?_, by omega, by omega⟩
  have := List.all_eq_true.1 h4 n hn
  simp only [isH, Bool.and_eq_true] at this
  have := inI_iff.1 this.1
  omega
def okBk (b : Bk) : Prop := (1 ≤ b.wide ∧ b.wide ≤ 100) ∧ 50 ≤ b.high ∧ b.high ≤ 400
theorem validBs_b {xs : List Bk} (h : validBs xs = true) : (∀ b ∈ xs, okBk b) ∧ xs.length ≤ 60 := by
  simp only [validBs, Bool.and_eq_true, decide_eq_true_eq] at h
  refine ⟨fun b hb => ?_, by omega⟩
  have := List.all_eq_true.1 h.2 b hb
  simp only [validB, Bool.and_eq_true] at this
  obtain ⟨⟨⟨⟨h1, h2⟩, h3⟩, h4⟩, h5⟩ := this
  exact ⟨inI_iff.1 h3, inI_iff.1 h4⟩
abbrev PreG (hs : List Int) (bs : List Bk) : Prop := ((∀ b ∈ bs, isBk b) ∧ (∀ b ∈ bs, okBk b) ∧ bs.length ≤ 60) ∧ (∀ n ∈ hs, 50 ≤ n ∧ n ≤ 1000) ∧ 1 ≤ hs.length ∧ hs.length ≤ 6
def wG (hs : List Int) (bs : List Bk) (k : Nat) (x : Int) : Int := (bs.getD x.toNat bk0).wide * (hs.getD k 0 - (bs.getD x.toNat bk0).high)
theorem wG_b {hs : List Int} {bs : List Bk} (h : PreG hs bs) {k : Nat} {x : Int} (hk : k < hs.length) (hx : 0 ≤ x ∧ x < bs.length) : (-100000 ≤ wG hs bs k x ∧ wG hs bs k x ≤ 100000) ∧ (1 ≤ (bs.getD x.toNat bk0).wide ∧ (bs.getD x.toNat bk0).wide ≤ 100) ∧ (50 ≤ hs.getD k 0 ∧ hs.getD k 0 ≤ 1000) ∧ 50 ≤ (bs.getD x.toNat bk0).high ∧ (bs.getD x.toNat bk0).high ≤ 400 := by
  obtain ⟨⟨_, hb, _⟩, hh, _⟩ := h
  obtain ⟨h1, h2⟩ := hb _ (getD_mem' (d := bk0) (show x.toNat < bs.length by omega))
  have h3 := hh _ (getD_mem' (d := 0) hk)
  refine ⟨?_, h1, h3, h2⟩
  unfold wG
  generalize (bs.getD x.toNat bk0).wide = w at *
  generalize (bs.getD x.toNat bk0).high = g at *
  generalize hs.getD k 0 = q at *
  have e1 : w * (q - g) ≤ w * 1000 := Int.mul_le_mul_of_nonneg_left (by omega) (by omega)
  have e2 : w * (-1000) ≤ w * (q - g) := Int.mul_le_mul_of_nonneg_left (by omega) (by omega)
  omega
theorem sumF_bb {w : Int → Int} {l : List Int} {B : Int} (h : ∀ x ∈ l, -B ≤ w x ∧ w x ≤ B) : ∀ k, k ≤ l.length → -(k * B) ≤ sumF w l k ∧ sumF w l k ≤ k * B
  | 0, _ => by simp [sumF]
  | k + 1, hk => by
    have ih := sumF_bb h k (by omega)
    have hx := h (l.getD k 0) (getD_mem' (by omega))
    rw [sumF]
    have : ((k + 1 : Nat) : Int) * B = k * B + B := by rw [Int.natCast_add, Int.add_mul]; simp
    omega
theorem grpR_len (hs : List Int) (bs : List Bk) : (grpR hs bs).1.length ≤ hs.length := by
  unfold grpR
  split
  · simp [grpF_len]
  · simp
theorem grpR_mem {hs : List Int} {bs : List Bk} {k : Nat} : (∀ x ∈ (grpR hs bs).1.getD k [], 0 ≤ x ∧ x < bs.length) ∧ ((grpR hs bs).1.getD k []).length ≤ bs.length := by
  unfold grpR
  split
  · by_cases hk : k < hs.length
    · show (∀ x ∈ (grpL hs bs).getD k [], _) ∧ _
      rw [show (grpL hs bs).getD k [] = selK (gF hs bs) k bs.length from grpF_get hk]
      exact ⟨selK_b _ _ _, selK_len _ _ _⟩
    · have : (grpL hs bs).getD k [] = [] := by
        simp [List.getD, grpL, grpF_len, show hs.length ≤ k by omega]
      show (∀ x ∈ (grpL hs bs).getD k [], _) ∧ _
      rw [this]; simp
  · simp
theorem sumG_bb {w : Nat → Int → Int} {gs : List (List Int)} {B : Int} {m : Nat} (hB : 0 ≤ B) : ∀ k, (∀ j, j < k → (gs.getD j []).length ≤ m ∧ ∀ x ∈ gs.getD j [], -B ≤ w j x ∧ w j x ≤ B) → -(k * (m * B)) ≤ sumG w gs k ∧ sumG w gs k ≤ k * (m * B)
  | 0, _ => by simp [sumG]
  | k + 1, h => by
    have ih := sumG_bb (w := w) (gs := gs) (m := m) hB k (fun j hj => h j (by omega))
    obtain ⟨h1, h2⟩ := h k (by omega)
    have h3 := sumF_bb h2 _ (Nat.le_refl _)
    have h4 : ((gs.getD k []).length : Int) * B ≤ m * B := Int.mul_le_mul_of_nonneg_right (by omega) hB
    rw [sumG]
    have : ((k + 1 : Nat) : Int) * (m * B) = k * (m * B) + m * B := by rw [Int.natCast_add, Int.add_mul]; simp
    omega
theorem sumG_lim {hs : List Int} {bs : List Bk} (h : PreG hs bs) {k : Nat} (hk : k ≤ (grpR hs bs).1.length) : -36000000 ≤ sumG (wG hs bs) (grpR hs bs).1 k ∧ sumG (wG hs bs) (grpR hs bs).1 k ≤ 36000000 := by
  have hl := grpR_len hs bs
  have hs6 := h.2.2.2
  have h60 := h.1.2.2
  have hb := sumG_bb (w := wG hs bs) (gs := (grpR hs bs).1) (B := 100000) (m := 60) (by omega) k (fun j hj => ⟨by have := (grpR_mem (hs := hs) (bs := bs) (k := j)).2; omega, fun x hx => (wG_b h (by omega) ((grpR_mem (k := j)).1 x hx)).1⟩)
  have : (k : Int) * (60 * 100000) ≤ 36000000 := by omega
  have h2 : ((60 : Nat) : Int) * 100000 = 6000000 := rfl
  rw [h2] at hb
  omega
theorem sumFk_lim {hs : List Int} {bs : List Bk} (h : PreG hs bs) {k i : Nat} (hk : k < (grpR hs bs).1.length) (hi : i ≤ ((grpR hs bs).1.getD k []).length) : -6000000 ≤ sumF (wG hs bs k) ((grpR hs bs).1.getD k []) i ∧ sumF (wG hs bs k) ((grpR hs bs).1.getD k []) i ≤ 6000000 := by
  have hl := grpR_len hs bs
  have h60 := h.1.2.2
  have hm := (grpR_mem (hs := hs) (bs := bs) (k := k)).2
  have hb := sumF_bb (w := wG hs bs k) (B := 100000) (fun x hx => (wG_b h (by omega) ((grpR_mem (k := k)).1 x hx)).1) i hi
  have : (i : Int) * 100000 ≤ 6000000 := by omega
  omega
theorem sumA_bb {hs : List Int} {bs : List Bk} (h : PreG hs bs) (ha : allG hs bs) : ∀ i, i ≤ bs.length → -(i * 100000) ≤ sumA (wG hs bs) (gF hs bs) i ∧ sumA (wG hs bs) (gF hs bs) i ≤ i * 100000
  | 0, _ => by simp [sumA]
  | i + 1, hi => by
    have ih := sumA_bb h ha i (by omega)
    have hg := allG_lt ha i (by omega)
    have hw := (wG_b h (k := (gF hs bs i).toNat) (x := (i : Int)) (by omega) ⟨by omega, by omega⟩).1
    rw [sumA]
    omega
theorem gF_eq {hs : List Int} {bs : List Bk} {i : Nat} (h : (gF hs bs i == (hs.length : Int)) = false) : idxOf (isHigh (bs.getD i bk0).high) hs = gF hs bs i := by
  have h1 := idxOf_lt (isHigh (bs.getD i bk0).high) hs
  simp only [beq_eq_false_iff_ne, ne_eq] at h
  unfold gF fstOf at h ⊢
  split
  · rfl
  · rename_i h2; rw [if_neg h2] at h; exact absurd rfl h
noncomputable def wasteI (hs : List Int) (bs : List Bk) : Int × Bool := (sumG (wG hs bs) (grpR hs bs).1 (grpR hs bs).1.length, (grpR hs bs).2)
theorem wasteI_eq (hs : List Int) (bs : List Bk) : wasteI hs bs = if ask (allG hs bs) then (sumA (wG hs bs) (gF hs bs) bs.length, true) else (0, false) := by
  unfold wasteI grpR
  split
  · rename_i h
    have h := ask_iff.1 h
    show (sumG _ (grpL hs bs) (grpL hs bs).length, true) = _
    rw [show (grpL hs bs).length = hs.length from grpF_len _ _ _, sumG_sumA _ (fun j hj => allG_lt h j hj)]
  · rfl
noncomputable def codeG (a b c : Int) (hs : List Int) (bs : List Bk) : Int := if !validH a b c hs || !validBs bs then 1 else if !ask (allG hs bs) then 6 else 0

noncomputable abbrev s_I_waste : Spec (List Int × List Bk) where
  args := fun x => [.sl 1 (i64s x.1), .sl 8 (bks x.2)]
  pre := fun x => PreG x.1 x.2
  res := fun x => .tup [.val (.int .i64 (wasteI x.1 x.2).1), .val (.bool (wasteI x.1 x.2).2)]

set_option maxRecDepth 20000 in
set_option maxHeartbeats 4000000 in
theorem ok_I_waste : FnOk Pr 42 s_I_waste := by
 refine fn_ok0 2 T0_ok Go.Proofs.Tryz.func42 rfl (enters_of Go.Proofs.Tryz.func42 rfl rfl) (fun _ => rfl) (fun _ => rfl) (fun _ => rfl) ?_
 rintro ⟨hs, bs⟩ hpg C hP hN hm hG hS0
 change awp C _ _ ⟨[(0, .sl 1 (i64s hs)), (1, .sl 8 (bks bs))], [], 0⟩
 have hpg : PreG hs bs := hpg
 have h60 := hpg.1.2.2
 have h6 := hpg.2.2.2
 refine awp_seq ?_
 refine r1 T0_ok hP hm hN ?_
 iterate 2 refine g1 ?_
 refine awp_seq ?_
 refine awp_sreg rfl ?_
 refine sg1 T0_ok hP hm hN ?_
 refine sg1 T0_ok hP hm hN ?_
 refine sreg_callN hP hN hG ok_I_groups (hs, bs) (by decide) (show _ ∧ _ from ⟨hpg.1.1, by have := hpg.1.2.2; omega, hpg.2.2.1, hpg.2.2.2⟩) rfl rfl rfl rfl (fm_cons rfl fm_nil) rfl rfl ?_
 refine sreg_weak (show Weak C _ ⟨[(16, .tup [.own 0, .val (.bool (grpR hs bs).2)]), (0, .sl 1 (i64s hs)), (1, .sl 8 (bks bs))], [(0, ⟨31, 1, false, i64ss ((grpR hs bs).1)⟩)], 0 + 1⟩ from weak_sl (sub_cons rfl (sub_cons rfl (sub_cons rfl (sub_nil))))) ?_
 refine sreg_rest T0_ok hP hm hN ?_
 iterate 5 refine g1 ?_
 
 refine awp_seq ?_
 refine r1 T0_ok hP hm hN ?_
 refine g1 ?_
 refine awp_seq ?_
 refine awp_seq ?_
 refine r1 T0_ok hP hm hN ?_
 iterate 3 refine g1 ?_
 refine awp_block ?_
 refine awp_loop (fun n st => ∃ k : Nat, k ≤ (grpR hs bs).1.length ∧ n = (grpR hs bs).1.length - k ∧ st = ⟨[(21, .val (.int .i64 ((k : Nat) : Int))), (8, .val (.int .i64 (sumG (wG hs bs) (grpR hs bs).1 k))), (20, .val (.int .i64 (((grpR hs bs).1.length : Nat) : Int))), (19, .own 0), (7, .val (.bool (grpR hs bs).2)), (0, .sl 1 (i64s hs)), (1, .sl 8 (bks bs))], [(0, ⟨31, 1, false, i64ss ((grpR hs bs).1)⟩)], 1⟩) ((grpR hs bs).1.length) ⟨_, weak_sl (sub_cons rfl (sub_cons rfl (sub_cons rfl (sub_cons rfl (sub_cons rfl (sub_cons rfl (sub_cons rfl (sub_nil)))))))), 0, by omega, rfl, rfl⟩ ?_
 rintro n st ⟨k, hik, hnk, rfl⟩
 have hgl := grpR_len hs bs
 have hsg := sumG_lim hpg hik
 refine awp_seq ?_
 refine r1 T0_ok hP hm hN ?_
 refine g1 ?_
 refine awp_seq ?_
 refine awp_cond rfl (fun hc0 => ?_) (fun hc0 => ?_)
 ·
  have hltk : k < (grpR hs bs).1.length := by simpa using hc0
  have hgk := i64ss_get (grpR hs bs).1 k hltk
  refine awp_skip ?_
  refine awp_seq ?_
  refine awp_block ?_
  refine awp_seq ?_
  refine r1 T0_ok hP hm hN ?_
  iterate 5 refine g1 ?_
  refine awp_seq ?_
  refine r1 T0_ok hP hm hN ?_
  iterate 3 refine g1 ?_
  refine awp_block ?_
  refine awp_loop (fun n st => ∃ i : Nat, i ≤ ((grpR hs bs).1.getD k []).length ∧ n = ((grpR hs bs).1.getD k []).length - i ∧ st = ⟨[(28, .val (.int .i64 ((i : Nat) : Int))), (27, .val (.int .i64 ((((grpR hs bs).1.getD k []).length : Nat) : Int))), (26, .sl 1 (i64s ((grpR hs bs).1.getD k []))), (9, .val (.int .i64 ((k : Nat) : Int))), (8, .val (.int .i64 (sumG (wG hs bs) (grpR hs bs).1 k + sumF (wG hs bs k) ((grpR hs bs).1.getD k []) i))), (21, .val (.int .i64 ((k : Nat) : Int))), (20, .val (.int .i64 (((grpR hs bs).1.length : Nat) : Int))), (19, .own 0), (7, .val (.bool (grpR hs bs).2)), (0, .sl 1 (i64s hs)), (1, .sl 8 (bks bs))], [(0, ⟨31, 1, false, i64ss ((grpR hs bs).1)⟩)], 1⟩) (((grpR hs bs).1.getD k []).length) ⟨_, (by rw [show sumG (wG hs bs) (grpR hs bs).1 k + sumF (wG hs bs k) ((grpR hs bs).1.getD k []) 0 = sumG (wG hs bs) (grpR hs bs).1 k by rw [sumF]; omega]; exact weak_sl (sub_cons rfl (sub_cons rfl (sub_cons rfl (sub_cons rfl (sub_cons rfl (sub_cons rfl (sub_cons rfl (sub_cons rfl (sub_cons rfl (sub_cons rfl (sub_cons rfl (sub_nil))))))))))))), 0, by omega, rfl, rfl⟩ ?_
  rintro n st ⟨i, hii, hni, rfl⟩
  have hsf := sumFk_lim hpg hltk hii
  have hqm := (grpR_mem (hs := hs) (bs := bs) (k := k)).2
  refine awp_seq ?_
  refine r1 T0_ok hP hm hN ?_
  refine g1 ?_
  refine awp_seq ?_
  refine awp_cond rfl (fun hc1 => ?_) (fun hc1 => ?_)
  ·
   have hlti : i < ((grpR hs bs).1.getD k []).length := by simpa using hc1
   have hxm := (grpR_mem (hs := hs) (bs := bs) (k := k)).1 _ (getD_mem' (d := 0) hlti)
   obtain ⟨hw1, hw2, hw3, hw4⟩ := wG_b hpg (k := k) (by omega) hxm
   unfold wG at hw1
   have hgx := bks_get bs (((grpR hs bs).1.getD k []).getD i 0).toNat (by omega)
   refine awp_skip ?_
   refine awp_seq ?_
   refine awp_block ?_
   refine awp_seq ?_
   refine r1 T0_ok hP hm hN ?_
   iterate 3 refine g1 ?_
   refine awp_draw T0_ok hP hm hN Pr_mix [0, 1, 2, 3, 4, 5, 6, 7, 8, 9, 10, 11] [] _ rfl (by rfl) ?_
   iterate 21 refine d1 T0_ok ?_
   refine dreg_nil ?_
   refine r1 T0_ok hP hm hN ?_
   iterate 2 refine g1 ?_
   refine ⟨((grpR hs bs).1.getD k []).length - (i + 1), _, by omega, (by rw [sumF, ← Int.add_assoc]; exact weak_sl (sub_cons rfl (sub_cons rfl (sub_cons rfl (sub_cons rfl (sub_cons rfl (sub_cons rfl (sub_cons rfl (sub_cons rfl (sub_cons rfl (sub_cons rfl (sub_cons rfl (sub_nil))))))))))))), i + 1, by omega, rfl, rfl⟩
  ·
   have hgei : ¬ i < ((grpR hs bs).1.getD k []).length := by simpa using hc1
   have heqi : i = ((grpR hs bs).1.getD k []).length := by omega
   subst heqi
   refine awp_exit ?_
   repeat refine thenA_exit ?_
   refine blockA_hit ?_
   refine r1 T0_ok hP hm hN ?_
   iterate 2 refine g1 ?_
   refine ⟨(grpR hs bs).1.length - (k + 1), _, by omega, (by rw [sumG]; exact weak_sl (sub_cons rfl (sub_cons rfl (sub_cons rfl (sub_cons rfl (sub_cons rfl (sub_cons rfl (sub_cons rfl (sub_nil))))))))), k + 1, by omega, rfl, rfl⟩
 ·
  have hgek : ¬ k < (grpR hs bs).1.length := by simpa using hc0
  have heqk : k = (grpR hs bs).1.length := by omega
  refine awp_exit ?_
  repeat refine thenA_exit ?_
  refine blockA_hit ?_
  refine awp_seq ?_
  refine r1 T0_ok hP hm hN ?_
  iterate 4 refine g1 ?_
  refine awp_ret ?_
  refine fin_mk [] rfl rfl ?_ trivial (by decide)
  show D.tup [.val (.int .i64 (wasteI hs bs).1), .val (.bool (wasteI hs bs).2)] = _
  rw [wasteI, ← heqk]
  rfl

noncomputable abbrev s_S_l04Waste : Spec (List Int × List Bk) where
  args := fun x => [.sl 1 (i64s x.1), .sl 8 (bks x.2)]
  pre := fun x => PreG x.1 x.2 ∧ allG x.1 x.2
  res := fun x => .val (.int .i64 (sumA (wG x.1 x.2) (gF x.1 x.2) x.2.length))

set_option maxRecDepth 20000 in
set_option maxHeartbeats 4000000 in
theorem ok_S_l04Waste : FnOk Pr 49 s_S_l04Waste := by
 refine fn_ok 2 0 T0_ok Go.Proofs.Tryz.func49 rfl (enters_of Go.Proofs.Tryz.func49 rfl rfl) (fun _ => rfl) (fun _ => rfl) (fun _ => rfl) ?_
 rintro ⟨hs, bs⟩ ⟨hpg, hag⟩ C hP hN hm hG
 change awp C _ _ ⟨[(0, .sl 1 (i64s hs)), (1, .sl 8 (bks bs))], [], 0⟩
 simp only at hpg hag
 have h60 := hpg.1.2.2
 have h6 := hpg.2.2.2
 refine awp_seq ?_
 refine r1 T0_ok hP hm hN ?_
 refine g1 ?_
 refine awp_seq ?_
 refine r1 T0_ok hP hm hN ?_
 refine g1 ?_
 refine awp_seq ?_
 refine awp_seq ?_
 refine r1 T0_ok hP hm hN ?_
 refine g1 ?_
 refine awp_block ?_
 refine awp_loop (fun n st => ∃ i : Nat, i ≤ bs.length ∧ n = bs.length - i ∧ st = ⟨[(6, .val (.int .i64 ((i : Nat) : Int))), (5, .val (.int .i64 (sumA (wG hs bs) (gF hs bs) i))), (0, .sl 1 (i64s hs)), (1, .sl 8 (bks bs))], [], 0⟩) (bs.length) ⟨_, weak_sl (sub_cons rfl (sub_cons rfl (sub_cons rfl (sub_cons rfl (sub_nil))))), 0, by omega, rfl, rfl⟩ ?_
 rintro n st ⟨i, hii, hni, rfl⟩
 refine awp_seq ?_
 refine awp_seq ?_
 refine r1 T0_ok hP hm hN ?_
 iterate 4 refine g1 ?_
 refine awp_cond rfl (fun hc0 => ?_) (fun hc0 => ?_)
 ·
  have hlti : i < bs.length := by simpa using hc0
  have hsa := sumA_bb hpg hag i hii
  have hix := gF_eq (hag i hlti)
  have hgl := allG_lt hag i hlti
  obtain ⟨hw1, hw2, hw3, hw4⟩ := wG_b hpg (k := (gF hs bs i).toNat) (x := (i : Int)) (by omega) ⟨by omega, by omega⟩
  unfold wG at hw1
  simp only [Int.toNat_natCast] at hw1 hw2 hw3 hw4
  have hgx := bks_get bs i hlti
  refine awp_skip ?_
  refine awp_seq ?_
  refine awp_block ?_
  refine awp_draw T0_ok hP hm hN Pr_mix [0, 1, 2, 3, 4, 5, 6, 7, 8, 9, 10, 11] [12] _ rfl (by rfl) ?_
  iterate 12 refine d1 T0_ok ?_
  refine dp1 ?_ (call1 ok_S_l04For (_, _, _, _, bs.getD i bk0) [] (hpre := by (try dsimp only); exact ⟨by omega, bks_get _ _ (by omega), hpg.1.1 _ (getD_mem' (by omega))⟩)) (hdn := by simp +decide (disch := omega) only [nrm, lk_nrm, dc_nrm, mk_nrm, mf_nrm, ti_nrm, ls_nrm, mp_nrm, nb_nrm, hset, pick_and, pick_or, ↓reduceIte, Nat.reduceAdd, wI64, wI32, wI16, wI8, wU8, List.length_map, Int.toNat_natCast, xn1, xn2, mask_nrm, hix]; rfl) (hhp := by simp +decide (disch := omega) only [nrm, lk_nrm, dc_nrm, mk_nrm, mf_nrm, ti_nrm, ls_nrm, mp_nrm, nb_nrm, hset, pick_and, pick_or, ↓reduceIte, Nat.reduceAdd, wI64, wI32, wI16, wI8, wU8, List.length_map, Int.toNat_natCast, xn1, xn2, mask_nrm, hix]; try rfl) (hnx := by simp +decide (disch := omega) only [nrm, lk_nrm, dc_nrm, mk_nrm, mf_nrm, ti_nrm, ls_nrm, mp_nrm, nb_nrm, hset, pick_and, pick_or, ↓reduceIte, Nat.reduceAdd, wI64, wI32, wI16, wI8, wU8, List.length_map, Int.toNat_natCast, xn1, xn2, mask_nrm, hix]; try rfl) (hsl := by simp +decide (disch := omega) only [nrm, lk_nrm, dc_nrm, mk_nrm, mf_nrm, ti_nrm, ls_nrm, mp_nrm, nb_nrm, hset, pick_and, pick_or, ↓reduceIte, Nat.reduceAdd, wI64, wI32, wI16, wI8, wU8, List.length_map, Int.toNat_natCast, xn1, xn2, mask_nrm, hix]; rfl)
  iterate 12 refine d1 T0_ok ?_
  refine dreg_nil ?_
  refine r1 T0_ok hP hm hN ?_
  iterate 3 refine g1 ?_
  refine ⟨bs.length - (i + 1), _, by omega, (by rw [sumA]; exact weak_sl (sub_cons rfl (sub_cons rfl (sub_cons rfl (sub_cons rfl (sub_nil)))))), i + 1, by omega, rfl, rfl⟩
 ·
  have hgei : ¬ i < bs.length := by simpa using hc0
  have heqi : i = bs.length := by omega
  subst heqi
  refine awp_exit ?_
  repeat refine thenA_exit ?_
  refine blockA_hit ?_
  refine awp_seq ?_
  refine r1 T0_ok hP hm hN ?_
  iterate 2 refine g1 ?_
  refine awp_ret ?_
  refine fin_mk [] rfl rfl ?_ trivial (by decide)
  rfl
end Go.Proofs.YtheoapoddmmahaaGreat.Abs

