import Derived.Test.YtkfbpfkomppefaaY5
set_option linter.unusedVariables false
set_option linter.unusedSimpArgs false
namespace Go.Proofs.Ytkfbpfkomppefaa.Abs
open Go Go.RowKit
def outBad (xs : List Bk) (j : Nat) : Bool := decide (cmpU (xs.getD j bk0) (xs.getD (j - 1) bk0) < 0)
def outF (xs : List Bk) : Nat → Int
  | 0 => -1
  | k + 1 => if outBad xs (xs.length - (k + 1)) then ((xs.length - (k + 1) : Nat) : Int) else outF xs k
def outR (xs : List Bk) : Int := outF xs (xs.length - 1)
theorem outF_yes {xs : List Bk} {i : Nat} (hi : i < xs.length - 1) (h : outBad xs (i + 1) = true) : outF xs (xs.length - 1 - i) = ((i + 1 : Nat) : Int) := by
  obtain ⟨k, hk⟩ : ∃ k, xs.length - 1 - i = k + 1 := ⟨xs.length - 1 - i - 1, by omega⟩
  rw [hk, outF, show xs.length - (k + 1) = i + 1 by omega, if_pos h]
theorem outF_no {xs : List Bk} {i : Nat} (hi : i < xs.length - 1) (h : outBad xs (i + 1) = false) : outF xs (xs.length - 1 - i) = outF xs (xs.length - 1 - (i + 1)) := by
  obtain ⟨k, hk⟩ : ∃ k, xs.length - 1 - i = k + 1 := ⟨xs.length - 1 - i - 1, by omega⟩
  rw [hk, outF, show xs.length - (k + 1) = i + 1 by omega, if_neg (by rw [h]; simp), show xs.length - 1 - (i + 1) = k by omega]
def srtP (xs : List Bk) : Prop := ∀ j, 1 ≤ j → j < xs.length → outBad xs j = false
theorem outF_neg (xs : List Bk) : ∀ k, k ≤ xs.length - 1 → (outF xs k < 0 ↔ ∀ j, xs.length - k ≤ j → j < xs.length → outBad xs j = false)
  | 0, _ => by
    refine ⟨fun _ j h1 h2 => by omega, fun _ => by simp [outF]⟩
  | k + 1, h => by
    have ih := outF_neg xs k (by omega)
    rw [outF]
    cases hb : outBad xs (xs.length - (k + 1)) with
    | true =>
      rw [if_pos rfl]
      refine ⟨fun h2 => by omega, fun h2 => ?_⟩
      have := h2 (xs.length - (k + 1)) (Nat.le_refl _) (by omega)
      rw [hb] at this; cases this
    | false =>
      rw [if_neg (by simp), ih]
      refine ⟨fun h2 j h3 h4 => ?_, fun h2 j h3 h4 => h2 j (by omega) h4⟩
      by_cases e : j = xs.length - (k + 1)
      · rw [e]; exact hb
      · exact h2 j (by omega) h4
theorem outR_neg (xs : List Bk) : decide (outR xs < 0) = ask (srtP xs) := by
  rw [Bool.eq_iff_iff, decide_eq_true_eq, ask_iff, outR, outF_neg xs _ (Nat.le_refl _)]
  refine ⟨fun h j h1 h2 => h j (by omega) h2, fun h j h1 h2 => ?_⟩
  by_cases e : 1 ≤ j
  · exact h j e h2
  · have hx : outBad xs j = decide (cmpU (xs.getD j bk0) (xs.getD (j - 1) bk0) < 0) := rfl
    have : j = 0 := by omega
    subst this
    omega
theorem natsub1' (a : Nat) : ((a + 1 : Nat) : Int) - 1 = (a : Int) := by omega
noncomputable def chkR (xs : List Bk) (ms : List Mv) : Bool × Int := (decide ((mvAR xs ms).2 = 0) && ask (srtP (mvAR xs ms).1), (mvAR xs ms).2)
theorem tn1 (j : Nat) : ((j : Int) - 1).toNat = j - 1 := by omega
theorem tn2 (j : Nat) : ((j : Int) - 1 - 1).toNat = j - 1 - 1 := by omega
theorem natadd1' (a : Nat) : ((a + 1 : Nat) : Int) + 1 = ((a + 1 + 1 : Nat) : Int) := rfl
theorem mvAR_mem {xs : List Bk} {ms : List Mv} (hv : ∀ b ∈ xs, isBk b) : ∀ b ∈ (mvAR xs ms).1, isBk b := by
  have hc : ∀ (ys : List Bk) (b : Blk), (∀ c ∈ ys, isBk c) → ∀ c ∈ carB ys b, isBk c := fun ys b h c hc => by
    simp only [carB, carried, List.mem_append] at hc
    rcases hc with (hc | hc) | hc
    · rcases List.mem_append.1 (List.mem_of_mem_take hc) with h2 | h2
      · exact h c (List.mem_of_mem_take h2)
      · exact h c (List.mem_of_mem_drop h2)
    · exact h c (List.mem_of_mem_drop (List.mem_of_mem_take hc))
    · rcases List.mem_append.1 (List.mem_of_mem_drop hc) with h2 | h2
      · exact h c (List.mem_of_mem_take h2)
      · exact h c (List.mem_of_mem_drop h2)
  have hm : ∀ i, ∀ c ∈ mvL xs ms i, isBk c := fun i => by
    induction i with
    | zero => exact hv
    | succ i ih => exact hc _ _ ih
  unfold mvAR
  split
  · intro b hb; simp at hb
  · split
    · intro b hb; simp at hb
    · split
      · exact hm _
      · intro b hb; simp at hb

noncomputable abbrev s_slices_IsSortedFunc_I_Book_I_Book : Spec (List Bk) where
  args := fun xs => [.sl 8 (bks xs), .val (.func (.func 53) #[] #[])]
  pre := fun xs => xs.length ≤ 1048576
  res := fun xs => .val (.bool (ask (srtP xs)))

set_option maxRecDepth 20000 in
set_option maxHeartbeats 1000000 in
theorem ok_slices_IsSortedFunc_I_Book_I_Book : FnOk Pr 63 s_slices_IsSortedFunc_I_Book_I_Book := by
  refine fn_ok 2 0 T0_ok Go.Proofs.Try.func63 rfl (enters_of Go.Proofs.Try.func63 rfl rfl) (fun _ => rfl) (fun _ => rfl) (fun _ => rfl) ?_
  rintro xs hl C hP hN hm hG
  change awp C _ _ ⟨[(0, .sl 8 (bks xs)), (1, .val (.func (.func 53) #[] #[]))], [], 0⟩
  have hl : xs.length ≤ 1048576 := hl
  refine awp_seq ?_
  refine r1 T0_ok hP hm hN ?_
  refine g1 ?_ (hst := by simp +decide (disch := omega) only [nrm, lk_nrm, dc_nrm, mk_nrm, mf_nrm, ti_nrm, ls_nrm, mp_nrm, nb_nrm, hset, pick_and, pick_or, ↓reduceIte, Nat.reduceAdd, wI64, wI32, wI16, wI8, wU8, List.length_map, Int.toNat_natCast, tn1, tn2]; rfl)
  refine awp_seq ?_
  refine awp_seq ?_
  refine r1 T0_ok hP hm hN ?_
  refine g1 ?_ (hst := by simp +decide (disch := omega) only [nrm, lk_nrm, dc_nrm, mk_nrm, mf_nrm, ti_nrm, ls_nrm, mp_nrm, nb_nrm, hset, pick_and, pick_or, ↓reduceIte, Nat.reduceAdd, wI64, wI32, wI16, wI8, wU8, List.length_map, Int.toNat_natCast, tn1, tn2]; rfl)
  refine g1 ?_ (hst := by simp +decide (disch := omega) only [nrm, lk_nrm, dc_nrm, mk_nrm, mf_nrm, ti_nrm, ls_nrm, mp_nrm, nb_nrm, hset, pick_and, pick_or, ↓reduceIte, Nat.reduceAdd, wI64, wI32, wI16, wI8, wU8, List.length_map, Int.toNat_natCast, tn1, tn2]; rfl)
  refine g1 ?_ (hst := by simp +decide (disch := omega) only [nrm, lk_nrm, dc_nrm, mk_nrm, mf_nrm, ti_nrm, ls_nrm, mp_nrm, nb_nrm, hset, pick_and, pick_or, ↓reduceIte, Nat.reduceAdd, wI64, wI32, wI16, wI8, wU8, List.length_map, Int.toNat_natCast, tn1, tn2]; rfl)
  refine g1 ?_ (hst := by simp +decide (disch := omega) only [nrm, lk_nrm, dc_nrm, mk_nrm, mf_nrm, ti_nrm, ls_nrm, mp_nrm, nb_nrm, hset, pick_and, pick_or, ↓reduceIte, Nat.reduceAdd, wI64, wI32, wI16, wI8, wU8, List.length_map, Int.toNat_natCast, tn1, tn2]; rfl)
  refine awp_block ?_
  refine awp_loop (fun n st => ∃ p : Nat, p ≤ xs.length ∧ (∀ j, p ≤ j → j < xs.length → outBad xs j = false) ∧ n = p ∧ st = ⟨[(5, .val (.int .i64 ((p : Int) - 1))), (0, .sl 8 (bks xs)), (1, .val (.func (.func 53) #[] #[]))], [], 0⟩) xs.length ⟨_, weak_sl (sub_cons rfl (sub_cons rfl (sub_cons rfl (sub_nil)))), xs.length, Nat.le_refl _, fun j h1 h2 => by omega, rfl, rfl⟩ ?_
  rintro n st ⟨p, hpl, hall, hnp, rfl⟩
  refine awp_seq ?_
  refine awp_seq ?_
  refine r1 T0_ok hP hm hN ?_
  refine g1 ?_ (hst := by simp +decide (disch := omega) only [nrm, lk_nrm, dc_nrm, mk_nrm, mf_nrm, ti_nrm, ls_nrm, mp_nrm, nb_nrm, hset, pick_and, pick_or, ↓reduceIte, Nat.reduceAdd, wI64, wI32, wI16, wI8, wU8, List.length_map, Int.toNat_natCast, tn1, tn2]; rfl)
  refine g1 ?_ (hst := by simp +decide (disch := omega) only [nrm, lk_nrm, dc_nrm, mk_nrm, mf_nrm, ti_nrm, ls_nrm, mp_nrm, nb_nrm, hset, pick_and, pick_or, ↓reduceIte, Nat.reduceAdd, wI64, wI32, wI16, wI8, wU8, List.length_map, Int.toNat_natCast, tn1, tn2]; rfl)
  refine awp_cond rfl (fun hc0 => ?_) (fun hc0 => ?_)
  · skip
    have hp2 : 2 ≤ p := by simp only [decide_eq_true_eq] at hc0; omega
    have hga := bks_get xs (p - 1) (by omega)
    have hgb := bks_get xs (p - 1 - 1) (by omega)
    refine awp_skip ?_
    refine awp_seq ?_
    refine awp_block ?_
    refine awp_seq ?_
    refine awp_draw T0_ok hP hm hN Pr_mix [0, 1, 2, 3, 4, 5, 6, 7, 8, 9, 10, 11] [10] _ rfl (by rfl) ?_
    refine d1 T0_ok ?_ (hdn := by simp +decide (disch := omega) only [nrm, lk_nrm, dc_nrm, mk_nrm, mf_nrm, ti_nrm, ls_nrm, mp_nrm, nb_nrm, hset, pick_and, pick_or, ↓reduceIte, Nat.reduceAdd, wI64, wI32, wI16, wI8, wU8, List.length_map, Int.toNat_natCast, tn1, tn2, mask_nrm]; rfl) (hsl := by simp +decide (disch := omega) only [nrm, lk_nrm, dc_nrm, mk_nrm, mf_nrm, ti_nrm, ls_nrm, mp_nrm, nb_nrm, hset, pick_and, pick_or, ↓reduceIte, Nat.reduceAdd, wI64, wI32, wI16, wI8, wU8, List.length_map, Int.toNat_natCast, tn1, tn2, mask_nrm]; rfl)
    refine d1 T0_ok ?_ (hdn := by simp +decide (disch := omega) only [nrm, lk_nrm, dc_nrm, mk_nrm, mf_nrm, ti_nrm, ls_nrm, mp_nrm, nb_nrm, hset, pick_and, pick_or, ↓reduceIte, Nat.reduceAdd, wI64, wI32, wI16, wI8, wU8, List.length_map, Int.toNat_natCast, tn1, tn2, mask_nrm]; rfl) (hsl := by simp +decide (disch := omega) only [nrm, lk_nrm, dc_nrm, mk_nrm, mf_nrm, ti_nrm, ls_nrm, mp_nrm, nb_nrm, hset, pick_and, pick_or, ↓reduceIte, Nat.reduceAdd, wI64, wI32, wI16, wI8, wU8, List.length_map, Int.toNat_natCast, tn1, tn2, mask_nrm]; rfl)
    refine d1 T0_ok ?_ (hdn := by simp +decide (disch := omega) only [nrm, lk_nrm, dc_nrm, mk_nrm, mf_nrm, ti_nrm, ls_nrm, mp_nrm, nb_nrm, hset, pick_and, pick_or, ↓reduceIte, Nat.reduceAdd, wI64, wI32, wI16, wI8, wU8, List.length_map, Int.toNat_natCast, tn1, tn2, mask_nrm]; rfl) (hsl := by simp +decide (disch := omega) only [nrm, lk_nrm, dc_nrm, mk_nrm, mf_nrm, ti_nrm, ls_nrm, mp_nrm, nb_nrm, hset, pick_and, pick_or, ↓reduceIte, Nat.reduceAdd, wI64, wI32, wI16, wI8, wU8, List.length_map, Int.toNat_natCast, tn1, tn2, mask_nrm]; rfl)
    refine d1 T0_ok ?_ (hdn := by simp +decide (disch := omega) only [nrm, lk_nrm, dc_nrm, mk_nrm, mf_nrm, ti_nrm, ls_nrm, mp_nrm, nb_nrm, hset, pick_and, pick_or, ↓reduceIte, Nat.reduceAdd, wI64, wI32, wI16, wI8, wU8, List.length_map, Int.toNat_natCast, tn1, tn2, mask_nrm]; rfl) (hsl := by simp +decide (disch := omega) only [nrm, lk_nrm, dc_nrm, mk_nrm, mf_nrm, ti_nrm, ls_nrm, mp_nrm, nb_nrm, hset, pick_and, pick_or, ↓reduceIte, Nat.reduceAdd, wI64, wI32, wI16, wI8, wU8, List.length_map, Int.toNat_natCast, tn1, tn2, mask_nrm]; rfl)
    refine d1 T0_ok ?_ (hdn := by simp +decide (disch := omega) only [nrm, lk_nrm, dc_nrm, mk_nrm, mf_nrm, ti_nrm, ls_nrm, mp_nrm, nb_nrm, hset, pick_and, pick_or, ↓reduceIte, Nat.reduceAdd, wI64, wI32, wI16, wI8, wU8, List.length_map, Int.toNat_natCast, tn1, tn2, mask_nrm]; rfl) (hsl := by simp +decide (disch := omega) only [nrm, lk_nrm, dc_nrm, mk_nrm, mf_nrm, ti_nrm, ls_nrm, mp_nrm, nb_nrm, hset, pick_and, pick_or, ↓reduceIte, Nat.reduceAdd, wI64, wI32, wI16, wI8, wU8, List.length_map, Int.toNat_natCast, tn1, tn2, mask_nrm]; rfl)
    refine d1 T0_ok ?_ (hdn := by simp +decide (disch := omega) only [nrm, lk_nrm, dc_nrm, mk_nrm, mf_nrm, ti_nrm, ls_nrm, mp_nrm, nb_nrm, hset, pick_and, pick_or, ↓reduceIte, Nat.reduceAdd, wI64, wI32, wI16, wI8, wU8, List.length_map, Int.toNat_natCast, tn1, tn2, mask_nrm]; rfl) (hsl := by simp +decide (disch := omega) only [nrm, lk_nrm, dc_nrm, mk_nrm, mf_nrm, ti_nrm, ls_nrm, mp_nrm, nb_nrm, hset, pick_and, pick_or, ↓reduceIte, Nat.reduceAdd, wI64, wI32, wI16, wI8, wU8, List.length_map, Int.toNat_natCast, tn1, tn2, mask_nrm]; rfl)
    refine d1 T0_ok ?_ (hdn := by simp +decide (disch := omega) only [nrm, lk_nrm, dc_nrm, mk_nrm, mf_nrm, ti_nrm, ls_nrm, mp_nrm, nb_nrm, hset, pick_and, pick_or, ↓reduceIte, Nat.reduceAdd, wI64, wI32, wI16, wI8, wU8, List.length_map, Int.toNat_natCast, tn1, tn2, mask_nrm]; rfl) (hsl := by simp +decide (disch := omega) only [nrm, lk_nrm, dc_nrm, mk_nrm, mf_nrm, ti_nrm, ls_nrm, mp_nrm, nb_nrm, hset, pick_and, pick_or, ↓reduceIte, Nat.reduceAdd, wI64, wI32, wI16, wI8, wU8, List.length_map, Int.toNat_natCast, tn1, tn2, mask_nrm]; rfl)
    refine d1 T0_ok ?_ (hdn := by simp +decide (disch := omega) only [nrm, lk_nrm, dc_nrm, mk_nrm, mf_nrm, ti_nrm, ls_nrm, mp_nrm, nb_nrm, hset, pick_and, pick_or, ↓reduceIte, Nat.reduceAdd, wI64, wI32, wI16, wI8, wU8, List.length_map, Int.toNat_natCast, tn1, tn2, mask_nrm]; rfl) (hsl := by simp +decide (disch := omega) only [nrm, lk_nrm, dc_nrm, mk_nrm, mf_nrm, ti_nrm, ls_nrm, mp_nrm, nb_nrm, hset, pick_and, pick_or, ↓reduceIte, Nat.reduceAdd, wI64, wI32, wI16, wI8, wU8, List.length_map, Int.toNat_natCast, tn1, tn2, mask_nrm]; rfl)
    refine d1 T0_ok ?_ (hdn := by simp +decide (disch := omega) only [nrm, lk_nrm, dc_nrm, mk_nrm, mf_nrm, ti_nrm, ls_nrm, mp_nrm, nb_nrm, hset, pick_and, pick_or, ↓reduceIte, Nat.reduceAdd, wI64, wI32, wI16, wI8, wU8, List.length_map, Int.toNat_natCast, tn1, tn2, mask_nrm]; rfl) (hsl := by simp +decide (disch := omega) only [nrm, lk_nrm, dc_nrm, mk_nrm, mf_nrm, ti_nrm, ls_nrm, mp_nrm, nb_nrm, hset, pick_and, pick_or, ↓reduceIte, Nat.reduceAdd, wI64, wI32, wI16, wI8, wU8, List.length_map, Int.toNat_natCast, tn1, tn2, mask_nrm]; rfl)
    refine d1 T0_ok ?_ (hdn := by simp +decide (disch := omega) only [nrm, lk_nrm, dc_nrm, mk_nrm, mf_nrm, ti_nrm, ls_nrm, mp_nrm, nb_nrm, hset, pick_and, pick_or, ↓reduceIte, Nat.reduceAdd, wI64, wI32, wI16, wI8, wU8, List.length_map, Int.toNat_natCast, tn1, tn2, mask_nrm]; rfl) (hsl := by simp +decide (disch := omega) only [nrm, lk_nrm, dc_nrm, mk_nrm, mf_nrm, ti_nrm, ls_nrm, mp_nrm, nb_nrm, hset, pick_and, pick_or, ↓reduceIte, Nat.reduceAdd, wI64, wI32, wI16, wI8, wU8, List.length_map, Int.toNat_natCast, tn1, tn2, mask_nrm]; rfl)
    refine dp1 ?_ (call1 ok_I_compare (xs.getD (p - 1) bk0, xs.getD (p - 1 - 1) bk0) []) (hdn := by simp +decide (disch := omega) only [nrm, lk_nrm, dc_nrm, mk_nrm, mf_nrm, ti_nrm, ls_nrm, mp_nrm, nb_nrm, hset, pick_and, pick_or, ↓reduceIte, Nat.reduceAdd, wI64, wI32, wI16, wI8, wU8, List.length_map, Int.toNat_natCast, tn1, tn2, mask_nrm]; rfl) (hhp := by simp +decide (disch := omega) only [nrm, lk_nrm, dc_nrm, mk_nrm, mf_nrm, ti_nrm, ls_nrm, mp_nrm, nb_nrm, hset, pick_and, pick_or, ↓reduceIte, Nat.reduceAdd, wI64, wI32, wI16, wI8, wU8, List.length_map, Int.toNat_natCast, tn1, tn2, mask_nrm]; try rfl) (hnx := by simp +decide (disch := omega) only [nrm, lk_nrm, dc_nrm, mk_nrm, mf_nrm, ti_nrm, ls_nrm, mp_nrm, nb_nrm, hset, pick_and, pick_or, ↓reduceIte, Nat.reduceAdd, wI64, wI32, wI16, wI8, wU8, List.length_map, Int.toNat_natCast, tn1, tn2, mask_nrm]; try rfl) (hsl := by simp +decide (disch := omega) only [nrm, lk_nrm, dc_nrm, mk_nrm, mf_nrm, ti_nrm, ls_nrm, mp_nrm, nb_nrm, hset, pick_and, pick_or, ↓reduceIte, Nat.reduceAdd, wI64, wI32, wI16, wI8, wU8, List.length_map, Int.toNat_natCast, tn1, tn2, mask_nrm]; rfl)
    refine d1 T0_ok ?_ (hdn := by simp +decide (disch := omega) only [nrm, lk_nrm, dc_nrm, mk_nrm, mf_nrm, ti_nrm, ls_nrm, mp_nrm, nb_nrm, hset, pick_and, pick_or, ↓reduceIte, Nat.reduceAdd, wI64, wI32, wI16, wI8, wU8, List.length_map, Int.toNat_natCast, tn1, tn2, mask_nrm]; rfl) (hsl := by simp +decide (disch := omega) only [nrm, lk_nrm, dc_nrm, mk_nrm, mf_nrm, ti_nrm, ls_nrm, mp_nrm, nb_nrm, hset, pick_and, pick_or, ↓reduceIte, Nat.reduceAdd, wI64, wI32, wI16, wI8, wU8, List.length_map, Int.toNat_natCast, tn1, tn2, mask_nrm]; rfl)
    refine dreg_nil ?_
    refine awp_cond rfl (fun hc1 => ?_) (fun hc1 => ?_)
    · skip
      have hno : outBad xs (p - 1) = true := hc1
      refine awp_seq ?_
      refine r1 T0_ok hP hm hN ?_
      refine g1 ?_ (hst := by simp +decide (disch := omega) only [nrm, lk_nrm, dc_nrm, mk_nrm, mf_nrm, ti_nrm, ls_nrm, mp_nrm, nb_nrm, hset, pick_and, pick_or, ↓reduceIte, Nat.reduceAdd, wI64, wI32, wI16, wI8, wU8, List.length_map, Int.toNat_natCast, tn1, tn2]; rfl)
      refine awp_ret ?_
      refine fin_mk [] rfl rfl ?_ trivial (by decide)
      show D.val (.bool (ask (srtP xs))) = _
      rw [ask_false (show ¬ srtP xs from fun h => by have := h (p - 1) (by omega) (by omega); rw [hno] at this; cases this)]
      rfl
    · skip
      have hno : outBad xs (p - 1) = false := hc1
      have hall2 : ∀ j, p - 1 ≤ j → j < xs.length → outBad xs j = false := fun j h1 h2 => by
        by_cases e : j = p - 1
        · rw [e]; exact hno
        · exact hall j (by omega) h2
      refine awp_skip ?_
      refine r1 T0_ok hP hm hN ?_
      refine g1 ?_ (hst := by simp +decide (disch := omega) only [nrm, lk_nrm, dc_nrm, mk_nrm, mf_nrm, ti_nrm, ls_nrm, mp_nrm, nb_nrm, hset, pick_and, pick_or, ↓reduceIte, Nat.reduceAdd, wI64, wI32, wI16, wI8, wU8, List.length_map, Int.toNat_natCast, tn1, tn2]; rfl)
      refine g1 ?_ (hst := by simp +decide (disch := omega) only [nrm, lk_nrm, dc_nrm, mk_nrm, mf_nrm, ti_nrm, ls_nrm, mp_nrm, nb_nrm, hset, pick_and, pick_or, ↓reduceIte, Nat.reduceAdd, wI64, wI32, wI16, wI8, wU8, List.length_map, Int.toNat_natCast, tn1, tn2]; rfl)
      refine g1 ?_ (hst := by simp +decide (disch := omega) only [nrm, lk_nrm, dc_nrm, mk_nrm, mf_nrm, ti_nrm, ls_nrm, mp_nrm, nb_nrm, hset, pick_and, pick_or, ↓reduceIte, Nat.reduceAdd, wI64, wI32, wI16, wI8, wU8, List.length_map, Int.toNat_natCast, tn1, tn2]; rfl)
      exact ⟨p - 1, _, by omega, (by rw [show ((p - 1 : Nat) : Int) - 1 = (p : Int) - 1 - 1 by omega]; exact weak_sl (sub_cons rfl (sub_cons rfl (sub_cons rfl (sub_nil))))), p - 1, by omega, hall2, rfl, rfl⟩
  · skip
    have hp2 : p ≤ 1 := by simp only [decide_eq_false_iff_not] at hc0; omega
    refine awp_exit ?_
    repeat refine thenA_exit ?_
    refine blockA_hit ?_
    refine awp_seq ?_
    refine r1 T0_ok hP hm hN ?_
    refine g1 ?_ (hst := by simp +decide (disch := omega) only [nrm, lk_nrm, dc_nrm, mk_nrm, mf_nrm, ti_nrm, ls_nrm, mp_nrm, nb_nrm, hset, pick_and, pick_or, ↓reduceIte, Nat.reduceAdd, wI64, wI32, wI16, wI8, wU8, List.length_map, Int.toNat_natCast, tn1, tn2]; rfl)
    refine awp_ret ?_
    refine fin_mk [] rfl rfl ?_ trivial (by decide)
    show D.val (.bool (ask (srtP xs))) = _
    rw [ask_true (show srtP xs from fun j h1 h2 => hall j (by omega) h2)]
    rfl

noncomputable abbrev s_I_isSorted : Spec (List Bk) where
  args := fun xs => [.sl 8 (bks xs)]
  pre := fun xs => xs.length ≤ 1048576
  res := fun xs => .val (.bool (ask (srtP xs)))

set_option maxRecDepth 20000 in
set_option maxHeartbeats 1000000 in
theorem ok_I_isSorted : FnOk Pr 44 s_I_isSorted := by
  refine fn_ok 1 0 T0_ok Go.Proofs.Try.func44 rfl (enters_of Go.Proofs.Try.func44 rfl rfl) (fun _ => rfl) (fun _ => rfl) (fun _ => rfl) ?_
  rintro xs hl C hP hN hm hG
  change awp C _ _ ⟨[(0, .sl 8 (bks xs))], [], 0⟩
  have hl : xs.length ≤ 1048576 := hl
  refine awp_seq ?_
  refine r1 T0_ok hP hm hN ?_
  refine g1 ?_
  refine awp_seq ?_
  refine r1 T0_ok hP hm hN ?_
  refine g1 ?_
  refine gc1 ?_ (call1 ok_slices_IsSortedFunc_I_Book_I_Book _ [] (hpre := by (try dsimp only); exact hl))
  refine g1 ?_
  refine awp_ret ?_
  refine fin_mk [] rfl rfl ?_ trivial (by decide)
  rfl

noncomputable abbrev s_S_l01Out : Spec (List Bk) where
  args := fun xs => [.sl 8 (bks xs)]
  pre := fun xs => (∀ b ∈ xs, isBk b) ∧ xs.length ≤ 1048576
  res := fun xs => .val (.int .i64 (outR xs))

set_option maxRecDepth 20000 in
set_option maxHeartbeats 1000000 in
theorem ok_S_l01Out : FnOk Pr 43 s_S_l01Out := by
  refine fn_ok 1 0 T0_ok Go.Proofs.Try.func43 rfl (enters_of Go.Proofs.Try.func43 rfl rfl) (fun _ => rfl) (fun _ => rfl) (fun _ => rfl) ?_
  rintro xs ⟨hv, hl⟩ C hP hN hm hG
  change awp C _ _ ⟨[(0, .sl 8 (bks xs))], [], 0⟩
  refine awp_seq ?_
  refine r1 T0_ok hP hm hN ?_
  refine g1 ?_ (hst := by simp +decide (disch := omega) only [nrm, lk_nrm, dc_nrm, mk_nrm, mf_nrm, ti_nrm, ls_nrm, mp_nrm, nb_nrm, hset, pick_and, pick_or, ↓reduceIte, Nat.reduceAdd, wI64, wI32, wI16, wI8, wU8, List.length_map, Int.toNat_natCast, natsub1', natadd1', Int.toNat_natCast]; rfl)
  refine awp_seq ?_
  refine awp_seq ?_
  refine r1 T0_ok hP hm hN ?_
  refine g1 ?_ (hst := by simp +decide (disch := omega) only [nrm, lk_nrm, dc_nrm, mk_nrm, mf_nrm, ti_nrm, ls_nrm, mp_nrm, nb_nrm, hset, pick_and, pick_or, ↓reduceIte, Nat.reduceAdd, wI64, wI32, wI16, wI8, wU8, List.length_map, Int.toNat_natCast, natsub1', natadd1', Int.toNat_natCast]; rfl)
  refine awp_block ?_
  refine awp_loop (fun n st => ∃ i : Nat, i ≤ (xs.length - 1) ∧ (outR xs = outF xs (xs.length - 1 - i)) ∧ n = (xs.length - 1) - i ∧ st = ⟨[(3, .val (.int .i64 ((i + 1 : Nat) : Int))), (0, .sl 8 (bks xs))], [], 0⟩) ((xs.length - 1)) ⟨_, weak_sl (sub_cons rfl (sub_cons rfl (sub_nil))), 0, by omega, rfl, rfl, rfl⟩ ?_
  rintro n st ⟨i, hii, hall, hni, rfl⟩
  refine awp_seq ?_
  refine awp_seq ?_
  refine r1 T0_ok hP hm hN ?_
  refine g1 ?_ (hst := by simp +decide (disch := omega) only [nrm, lk_nrm, dc_nrm, mk_nrm, mf_nrm, ti_nrm, ls_nrm, mp_nrm, nb_nrm, hset, pick_and, pick_or, ↓reduceIte, Nat.reduceAdd, wI64, wI32, wI16, wI8, wU8, List.length_map, Int.toNat_natCast, natsub1', natadd1', Int.toNat_natCast]; rfl)
  refine g1 ?_ (hst := by simp +decide (disch := omega) only [nrm, lk_nrm, dc_nrm, mk_nrm, mf_nrm, ti_nrm, ls_nrm, mp_nrm, nb_nrm, hset, pick_and, pick_or, ↓reduceIte, Nat.reduceAdd, wI64, wI32, wI16, wI8, wU8, List.length_map, Int.toNat_natCast, natsub1', natadd1', Int.toNat_natCast]; rfl)
  refine g1 ?_ (hst := by simp +decide (disch := omega) only [nrm, lk_nrm, dc_nrm, mk_nrm, mf_nrm, ti_nrm, ls_nrm, mp_nrm, nb_nrm, hset, pick_and, pick_or, ↓reduceIte, Nat.reduceAdd, wI64, wI32, wI16, wI8, wU8, List.length_map, Int.toNat_natCast, natsub1', natadd1', Int.toNat_natCast]; rfl)
  refine g1 ?_ (hst := by simp +decide (disch := omega) only [nrm, lk_nrm, dc_nrm, mk_nrm, mf_nrm, ti_nrm, ls_nrm, mp_nrm, nb_nrm, hset, pick_and, pick_or, ↓reduceIte, Nat.reduceAdd, wI64, wI32, wI16, wI8, wU8, List.length_map, Int.toNat_natCast, natsub1', natadd1', Int.toNat_natCast]; rfl)
  refine awp_cond rfl (fun hc0 => ?_) (fun hc0 => ?_)
  · skip
    have hlti : i < xs.length - 1 := by simp only [decide_eq_true_eq] at hc0; omega
    refine awp_skip ?_
    refine awp_seq ?_
    refine awp_block ?_
    refine awp_seq ?_
    refine awp_draw T0_ok hP hm hN Pr_mix [0, 1, 2, 3, 4, 5, 6, 7, 8, 9, 10, 11] [7] _ rfl (by rfl) ?_
    refine d1 T0_ok ?_ (hdn := by simp +decide (disch := omega) only [nrm, lk_nrm, dc_nrm, mk_nrm, mf_nrm, ti_nrm, ls_nrm, mp_nrm, nb_nrm, hset, pick_and, pick_or, ↓reduceIte, Nat.reduceAdd, wI64, wI32, wI16, wI8, wU8, List.length_map, Int.toNat_natCast, natsub1', natadd1', Int.toNat_natCast, mask_nrm]; rfl) (hsl := by simp +decide (disch := omega) only [nrm, lk_nrm, dc_nrm, mk_nrm, mf_nrm, ti_nrm, ls_nrm, mp_nrm, nb_nrm, hset, pick_and, pick_or, ↓reduceIte, Nat.reduceAdd, wI64, wI32, wI16, wI8, wU8, List.length_map, Int.toNat_natCast, natsub1', natadd1', Int.toNat_natCast, mask_nrm]; rfl)
    refine d1 T0_ok ?_ (hdn := by simp +decide (disch := omega) only [nrm, lk_nrm, dc_nrm, mk_nrm, mf_nrm, ti_nrm, ls_nrm, mp_nrm, nb_nrm, hset, pick_and, pick_or, ↓reduceIte, Nat.reduceAdd, wI64, wI32, wI16, wI8, wU8, List.length_map, Int.toNat_natCast, natsub1', natadd1', Int.toNat_natCast, mask_nrm]; rfl) (hsl := by simp +decide (disch := omega) only [nrm, lk_nrm, dc_nrm, mk_nrm, mf_nrm, ti_nrm, ls_nrm, mp_nrm, nb_nrm, hset, pick_and, pick_or, ↓reduceIte, Nat.reduceAdd, wI64, wI32, wI16, wI8, wU8, List.length_map, Int.toNat_natCast, natsub1', natadd1', Int.toNat_natCast, mask_nrm]; rfl)
    refine d1 T0_ok ?_ (hdn := by simp +decide (disch := omega) only [nrm, lk_nrm, dc_nrm, mk_nrm, mf_nrm, ti_nrm, ls_nrm, mp_nrm, nb_nrm, hset, pick_and, pick_or, ↓reduceIte, Nat.reduceAdd, wI64, wI32, wI16, wI8, wU8, List.length_map, Int.toNat_natCast, natsub1', natadd1', Int.toNat_natCast, mask_nrm]; rfl) (hsl := by simp +decide (disch := omega) only [nrm, lk_nrm, dc_nrm, mk_nrm, mf_nrm, ti_nrm, ls_nrm, mp_nrm, nb_nrm, hset, pick_and, pick_or, ↓reduceIte, Nat.reduceAdd, wI64, wI32, wI16, wI8, wU8, List.length_map, Int.toNat_natCast, natsub1', natadd1', Int.toNat_natCast, mask_nrm]; rfl)
    refine d1 T0_ok ?_ (hdn := by simp +decide (disch := omega) only [nrm, lk_nrm, dc_nrm, mk_nrm, mf_nrm, ti_nrm, ls_nrm, mp_nrm, nb_nrm, hset, pick_and, pick_or, ↓reduceIte, Nat.reduceAdd, wI64, wI32, wI16, wI8, wU8, List.length_map, Int.toNat_natCast, natsub1', natadd1', Int.toNat_natCast, mask_nrm]; rfl) (hsl := by simp +decide (disch := omega) only [nrm, lk_nrm, dc_nrm, mk_nrm, mf_nrm, ti_nrm, ls_nrm, mp_nrm, nb_nrm, hset, pick_and, pick_or, ↓reduceIte, Nat.reduceAdd, wI64, wI32, wI16, wI8, wU8, List.length_map, Int.toNat_natCast, natsub1', natadd1', Int.toNat_natCast, mask_nrm]; rfl)
    refine d1 T0_ok ?_ (hdn := by simp +decide (disch := omega) only [nrm, lk_nrm, dc_nrm, mk_nrm, mf_nrm, ti_nrm, ls_nrm, mp_nrm, nb_nrm, hset, pick_and, pick_or, ↓reduceIte, Nat.reduceAdd, wI64, wI32, wI16, wI8, wU8, List.length_map, Int.toNat_natCast, natsub1', natadd1', Int.toNat_natCast, mask_nrm]; rfl) (hsl := by simp +decide (disch := omega) only [nrm, lk_nrm, dc_nrm, mk_nrm, mf_nrm, ti_nrm, ls_nrm, mp_nrm, nb_nrm, hset, pick_and, pick_or, ↓reduceIte, Nat.reduceAdd, wI64, wI32, wI16, wI8, wU8, List.length_map, Int.toNat_natCast, natsub1', natadd1', Int.toNat_natCast, mask_nrm]; rfl)
    refine d1 T0_ok ?_ (hdn := by simp +decide (disch := omega) only [nrm, lk_nrm, dc_nrm, mk_nrm, mf_nrm, ti_nrm, ls_nrm, mp_nrm, nb_nrm, hset, pick_and, pick_or, ↓reduceIte, Nat.reduceAdd, wI64, wI32, wI16, wI8, wU8, List.length_map, Int.toNat_natCast, natsub1', natadd1', Int.toNat_natCast, mask_nrm]; rfl) (hsl := by simp +decide (disch := omega) only [nrm, lk_nrm, dc_nrm, mk_nrm, mf_nrm, ti_nrm, ls_nrm, mp_nrm, nb_nrm, hset, pick_and, pick_or, ↓reduceIte, Nat.reduceAdd, wI64, wI32, wI16, wI8, wU8, List.length_map, Int.toNat_natCast, natsub1', natadd1', Int.toNat_natCast, mask_nrm]; rfl)
    refine d1 T0_ok ?_ (hdn := by simp +decide (disch := omega) only [nrm, lk_nrm, dc_nrm, mk_nrm, mf_nrm, ti_nrm, ls_nrm, mp_nrm, nb_nrm, hset, pick_and, pick_or, ↓reduceIte, Nat.reduceAdd, wI64, wI32, wI16, wI8, wU8, List.length_map, Int.toNat_natCast, natsub1', natadd1', Int.toNat_natCast, mask_nrm]; rfl) (hsl := by simp +decide (disch := omega) only [nrm, lk_nrm, dc_nrm, mk_nrm, mf_nrm, ti_nrm, ls_nrm, mp_nrm, nb_nrm, hset, pick_and, pick_or, ↓reduceIte, Nat.reduceAdd, wI64, wI32, wI16, wI8, wU8, List.length_map, Int.toNat_natCast, natsub1', natadd1', Int.toNat_natCast, mask_nrm]; rfl)
    refine dp1 ?_ (call1 ok_S_l01Usual ((_, _, _, 0, xs.getD (i + 1) bk0), (_, _, _, 0, xs.getD i bk0), false) [] (hpre := by (try dsimp only); exact ⟨⟨bks_get _ _ (by omega), hv _ (getD_mem' (by omega))⟩, ⟨bks_get _ _ (by omega), hv _ (getD_mem' (by omega))⟩⟩)) (hdn := by simp +decide (disch := omega) only [nrm, lk_nrm, dc_nrm, mk_nrm, mf_nrm, ti_nrm, ls_nrm, mp_nrm, nb_nrm, hset, pick_and, pick_or, ↓reduceIte, Nat.reduceAdd, wI64, wI32, wI16, wI8, wU8, List.length_map, Int.toNat_natCast, natsub1', natadd1', Int.toNat_natCast, mask_nrm]; rfl) (hhp := by simp +decide (disch := omega) only [nrm, lk_nrm, dc_nrm, mk_nrm, mf_nrm, ti_nrm, ls_nrm, mp_nrm, nb_nrm, hset, pick_and, pick_or, ↓reduceIte, Nat.reduceAdd, wI64, wI32, wI16, wI8, wU8, List.length_map, Int.toNat_natCast, natsub1', natadd1', Int.toNat_natCast, mask_nrm]; try rfl) (hnx := by simp +decide (disch := omega) only [nrm, lk_nrm, dc_nrm, mk_nrm, mf_nrm, ti_nrm, ls_nrm, mp_nrm, nb_nrm, hset, pick_and, pick_or, ↓reduceIte, Nat.reduceAdd, wI64, wI32, wI16, wI8, wU8, List.length_map, Int.toNat_natCast, natsub1', natadd1', Int.toNat_natCast, mask_nrm]; try rfl) (hsl := by simp +decide (disch := omega) only [nrm, lk_nrm, dc_nrm, mk_nrm, mf_nrm, ti_nrm, ls_nrm, mp_nrm, nb_nrm, hset, pick_and, pick_or, ↓reduceIte, Nat.reduceAdd, wI64, wI32, wI16, wI8, wU8, List.length_map, Int.toNat_natCast, natsub1', natadd1', Int.toNat_natCast, mask_nrm]; rfl)
    refine d1 T0_ok ?_ (hdn := by simp +decide (disch := omega) only [nrm, lk_nrm, dc_nrm, mk_nrm, mf_nrm, ti_nrm, ls_nrm, mp_nrm, nb_nrm, hset, pick_and, pick_or, ↓reduceIte, Nat.reduceAdd, wI64, wI32, wI16, wI8, wU8, List.length_map, Int.toNat_natCast, natsub1', natadd1', Int.toNat_natCast, mask_nrm]; rfl) (hsl := by simp +decide (disch := omega) only [nrm, lk_nrm, dc_nrm, mk_nrm, mf_nrm, ti_nrm, ls_nrm, mp_nrm, nb_nrm, hset, pick_and, pick_or, ↓reduceIte, Nat.reduceAdd, wI64, wI32, wI16, wI8, wU8, List.length_map, Int.toNat_natCast, natsub1', natadd1', Int.toNat_natCast, mask_nrm]; rfl)
    refine dreg_nil ?_
    refine awp_cond rfl (fun hc1 => ?_) (fun hc1 => ?_)
    · skip
      have hno : outBad xs (i + 1) = true := hc1
      refine awp_seq ?_
      refine r1 T0_ok hP hm hN ?_
      refine g1 ?_ (hst := by simp +decide (disch := omega) only [nrm, lk_nrm, dc_nrm, mk_nrm, mf_nrm, ti_nrm, ls_nrm, mp_nrm, nb_nrm, hset, pick_and, pick_or, ↓reduceIte, Nat.reduceAdd, wI64, wI32, wI16, wI8, wU8, List.length_map, Int.toNat_natCast, natsub1', natadd1', Int.toNat_natCast]; rfl)
      refine g1 ?_ (hst := by simp +decide (disch := omega) only [nrm, lk_nrm, dc_nrm, mk_nrm, mf_nrm, ti_nrm, ls_nrm, mp_nrm, nb_nrm, hset, pick_and, pick_or, ↓reduceIte, Nat.reduceAdd, wI64, wI32, wI16, wI8, wU8, List.length_map, Int.toNat_natCast, natsub1', natadd1', Int.toNat_natCast]; rfl)
      refine awp_ret ?_
      refine fin_mk [] rfl rfl ?_ trivial (by decide)
      show D.val (.int .i64 (outR xs)) = _
      rw [hall, outF_yes hlti hno]
      rfl
    · skip
      have hno : outBad xs (i + 1) = false := hc1
      refine awp_skip ?_
      refine r1 T0_ok hP hm hN ?_
      refine g1 ?_ (hst := by simp +decide (disch := omega) only [nrm, lk_nrm, dc_nrm, mk_nrm, mf_nrm, ti_nrm, ls_nrm, mp_nrm, nb_nrm, hset, pick_and, pick_or, ↓reduceIte, Nat.reduceAdd, wI64, wI32, wI16, wI8, wU8, List.length_map, Int.toNat_natCast, natsub1', natadd1', Int.toNat_natCast]; rfl)
      refine g1 ?_ (hst := by simp +decide (disch := omega) only [nrm, lk_nrm, dc_nrm, mk_nrm, mf_nrm, ti_nrm, ls_nrm, mp_nrm, nb_nrm, hset, pick_and, pick_or, ↓reduceIte, Nat.reduceAdd, wI64, wI32, wI16, wI8, wU8, List.length_map, Int.toNat_natCast, natsub1', natadd1', Int.toNat_natCast]; rfl)
      refine g1 ?_ (hst := by simp +decide (disch := omega) only [nrm, lk_nrm, dc_nrm, mk_nrm, mf_nrm, ti_nrm, ls_nrm, mp_nrm, nb_nrm, hset, pick_and, pick_or, ↓reduceIte, Nat.reduceAdd, wI64, wI32, wI16, wI8, wU8, List.length_map, Int.toNat_natCast, natsub1', natadd1', Int.toNat_natCast]; rfl)
      refine ⟨(xs.length - 1) - (i + 1), _, by omega, weak_sl (sub_cons rfl (sub_cons rfl (sub_nil))), i + 1, by omega, by rw [hall, outF_no hlti hno], rfl, rfl⟩
  · skip
    have hgei : ¬ i < xs.length - 1 := by simp only [decide_eq_false_iff_not] at hc0; omega
    obtain rfl : i = xs.length - 1 := by omega
    refine awp_exit ?_
    repeat refine thenA_exit ?_
    refine blockA_hit ?_
    refine awp_seq ?_
    refine r1 T0_ok hP hm hN ?_
    refine g1 ?_ (hst := by simp +decide (disch := omega) only [nrm, lk_nrm, dc_nrm, mk_nrm, mf_nrm, ti_nrm, ls_nrm, mp_nrm, nb_nrm, hset, pick_and, pick_or, ↓reduceIte, Nat.reduceAdd, wI64, wI32, wI16, wI8, wU8, List.length_map, Int.toNat_natCast, natsub1', natadd1', Int.toNat_natCast]; rfl)
    refine awp_ret ?_
    refine fin_mk [] rfl rfl ?_ trivial (by decide)
    show D.val (.int .i64 (outR xs)) = _
    rw [hall, Nat.sub_self]
    rfl

noncomputable abbrev s_I_CheckMoves : Spec (List Bk × List Mv) where
  args := fun x => [.sl 8 (bks x.1), .sl 2 (mvs x.2)]
  pre := fun x => ((∀ b ∈ x.1, isBk b) ∧ x.1.length ≤ 1048576) ∧ (∀ b ∈ x.2, isMv b) ∧ x.2.length ≤ 1048576
  res := fun x => .tup [.val (.bool (chkR x.1 x.2).1), .val (.int .i64 (chkR x.1 x.2).2)]

set_option maxRecDepth 20000 in
set_option maxHeartbeats 4000000 in
theorem ok_I_CheckMoves : FnOk Pr 26 s_I_CheckMoves := by
  refine fn_ok 2 0 T0_ok Go.Proofs.Try.func26 rfl (enters_of Go.Proofs.Try.func26 rfl rfl) (fun _ => rfl) (fun _ => rfl) (fun _ => rfl) ?_
  rintro ⟨xs, ms⟩ ⟨⟨hv, hl⟩, hms, hml⟩ C hP hN hm hG
  change awp C _ _ ⟨[(0, .sl 8 (bks xs)), (1, .sl 2 (mvs ms))], [], 0⟩
  simp only at hv hl hms hml
  have hal := mvAR_len xs ms
  have hav := mvAR_mem (ms := ms) hv
  refine awp_seq ?_
  refine r1 T0_ok hP hm hN ?_
  refine g1 ?_
  refine g1 ?_
  refine awp_seq ?_
  refine r1 T0_ok hP hm hN ?_
  refine g1 ?_
  refine g1 ?_
  refine gc1 ?_ (call1 ok_I_MoveAll (_, _) [] (hpre := by (try dsimp only); exact ⟨⟨hv, hl⟩, hms, hml⟩))
  refine g1 ?_
  refine g1 ?_
  refine g1 ?_
  refine g1 ?_
  refine g1 ?_
  refine awp_seq ?_
  refine r1 T0_ok hP hm hN ?_
  refine g1 ?_
  refine g1 ?_
  refine g1 ?_
  refine gg1 ?_
  refine ggc1 ?_ (hs := by intro hb; simp +decide only [hb, gd_tt, gd_ff, beq_self_eq_true, Bool.true_and, beq_true]; exact ⟨rfl, _, call1 ok_I_isSorted (mvAR xs ms).1 [] (hpre := by (try dsimp only); omega), rfl, rfl, rfl⟩)
  refine g1 ?_
  refine g1 ?_
  refine g1 ?_
  refine g1 ?_
  refine awp_ret ?_
  refine fin_mk [] rfl rfl ?_ trivial (by decide)
  rfl

noncomputable abbrev s_S_CheckMoves : Spec (List Bk × List Mv) where
  args := fun x => [.sl 8 (bks x.1), .sl 2 (mvs x.2)]
  pre := fun x => ((∀ b ∈ x.1, isBk b) ∧ x.1.length ≤ 1048576) ∧ (∀ b ∈ x.2, isMv b) ∧ x.2.length ≤ 1048576
  res := fun x => .tup [.val (.bool (chkR x.1 x.2).1), .val (.int .i64 (chkR x.1 x.2).2)]

set_option maxRecDepth 20000 in
set_option maxHeartbeats 4000000 in
theorem ok_S_CheckMoves : FnOk Pr 25 s_S_CheckMoves := by
  refine fn_ok 2 0 T0_ok Go.Proofs.Try.func25 rfl (enters_of Go.Proofs.Try.func25 rfl rfl) (fun _ => rfl) (fun _ => rfl) (fun _ => rfl) ?_
  rintro ⟨xs, ms⟩ ⟨⟨hv, hl⟩, hms, hml⟩ C hP hN hm hG
  change awp C _ _ ⟨[(0, .sl 8 (bks xs)), (1, .sl 2 (mvs ms))], [], 0⟩
  simp only at hv hl hms hml
  have hal := mvAR_len xs ms
  have hav := mvAR_mem (ms := ms) hv
  refine awp_seq ?_
  refine r1 T0_ok hP hm hN ?_
  refine g1 ?_
  refine g1 ?_
  refine awp_seq ?_
  refine r1 T0_ok hP hm hN ?_
  refine g1 ?_
  refine g1 ?_
  refine gc1 ?_ (call1 ok_S_l03All (_, _) [] (hpre := by (try dsimp only); exact ⟨⟨hv, hl⟩, hms, hml⟩))
  refine g1 ?_
  refine g1 ?_
  refine g1 ?_
  refine g1 ?_
  refine g1 ?_
  refine awp_seq ?_
  refine awp_seq ?_
  refine r1 T0_ok hP hm hN ?_
  refine g1 ?_
  refine g1 ?_
  refine awp_cond rfl (fun hc0 => ?_) (fun hc0 => ?_)
  · skip
    have hr : chkR xs ms = (false, (mvAR xs ms).2) := by rw [chkR, show decide ((mvAR xs ms).2 = 0) = false by simpa using hc0, Bool.false_and]
    refine awp_seq ?_
    refine r1 T0_ok hP hm hN ?_
    refine g1 ?_
    refine g1 ?_
    refine g1 ?_
    refine awp_ret ?_
    refine fin_mk [] rfl rfl ?_ trivial (by decide)
    show D.tup [.val (.bool (chkR xs ms).1), .val (.int .i64 (chkR xs ms).2)] = _
    rw [hr]
    rfl
  · skip
    have hz : (mvAR xs ms).2 = 0 := by simpa using hc0
    have hr : chkR xs ms = (decide (outR (mvAR xs ms).1 < 0), 0) := by rw [chkR, hz, outR_neg]; rfl
    refine awp_skip ?_
    refine awp_seq ?_
    refine r1 T0_ok hP hm hN ?_
    refine g1 ?_
    refine gc1 ?_ (call1 ok_S_l01Out (mvAR xs ms).1 [] (hpre := by (try dsimp only); exact ⟨hav, by omega⟩))
    refine g1 ?_
    refine g1 ?_
    refine g1 ?_
    refine awp_ret ?_
    refine fin_mk [] rfl rfl ?_ trivial (by decide)
    show D.tup [.val (.bool (chkR xs ms).1), .val (.int .i64 (chkR xs ms).2)] = _
    rw [hr]
    rfl
end Go.Proofs.Ytkfbpfkomppefaa.Abs
