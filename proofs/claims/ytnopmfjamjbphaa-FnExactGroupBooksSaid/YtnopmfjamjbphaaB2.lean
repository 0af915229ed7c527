import Derived.Test.YtnopmfjamjbphaaB1
set_option linter.unusedVariables false
set_option linter.unusedSimpArgs false
namespace Go.Proofs.Ytnopmfjamjbphaa.Abs
open Go Go.RowKit
theorem validH_b2 {a b c : Int} {xs : List Int} (h : validH a b c xs = true) : (∀ n ∈ xs, 50 ≤ n ∧ n ≤ 1000) ∧ 1 ≤ xs.length ∧ xs.length ≤ 6 := by
  simp only [validH, Bool.and_eq_true] at h
  obtain ⟨⟨⟨h1, h2⟩, h3⟩, h4⟩ := h
  have h2 := inI_iff.1 h2
  obtain ⟨ha, -, -⟩ := pegsOk_iff.1 h1
  refine ⟨fun n hn => ?_, by omega, by omega⟩
  have := List.all_eq_true.1 h4 n hn
  simp only [isH, Bool.and_eq_true] at this
  have := inI_iff.1 this.1
  omega
def okBk (b : Bk) : Prop := (1 ≤ b.wide ∧ b.wide ≤ 100) ∧ 50 ≤ b.high ∧ b.high ≤ 400
theorem validBs_b {xs : List Bk} (h : validBs xs = true) : (∀ b ∈ xs, okBk b) ∧ xs.length ≤ 60 := by
  simp only [validBs, Bool.and_eq_true, decide_eq_true_eq] at h
  refine ⟨fun b hb => ?_, by omega⟩
  have := List.all_eq_true.1 h.2 b hb
  simp only [validB, Bool.and_eq_true] at this
  obtain ⟨⟨⟨⟨h1, h2⟩, h3⟩, h4⟩, h5⟩ := this
  exact ⟨inI_iff.1 h3, inI_iff.1 h4⟩
abbrev PreG (hs : List Int) (bs : List Bk) : Prop := ((∀ b ∈ bs, isBk b) ∧ (∀ b ∈ bs, okBk b) ∧ bs.length ≤ 60) ∧ (∀ n ∈ hs, 50 ≤ n ∧ n ≤ 1000) ∧ 1 ≤ hs.length ∧ hs.length ≤ 6
/-- What a book wastes at a height. -/
def wG (hs : List Int) (bs : List Bk) (k : Nat) (x : Int) : Int := (bs.getD x.toNat bk0).wide * (hs.getD k 0 - (bs.getD x.toNat bk0).high)
theorem wG_b {hs : List Int} {bs : List Bk} (h : PreG hs bs) {k : Nat} {x : Int} (hk : k < hs.length) (hx : 0 ≤ x ∧ x < bs.length) : (-100000 ≤ wG hs bs k x ∧ wG hs bs k x ≤ 100000) ∧ (1 ≤ (bs.getD x.toNat bk0).wide ∧ (bs.getD x.toNat bk0).wide ≤ 100) ∧ (50 ≤ hs.getD k 0 ∧ hs.getD k 0 ≤ 1000) ∧ 50 ≤ (bs.getD x.toNat bk0).high ∧ (bs.getD x.toNat bk0).high ≤ 400 := by
  obtain ⟨⟨_, hb, _⟩, hh, _⟩ := h
  obtain ⟨h1, h2⟩ := hb _ (getD_mem' (d := bk0) (show x.toNat < bs.length by omega))
  have h3 := hh _ (getD_mem' (d := 0) hk)
  refine ⟨?_, h1, h3, h2⟩
  unfold wG
  generalize (bs.getD x.toNat bk0).wide = w at *
  generalize (bs.getD x.toNat bk0).high = g at *
  generalize hs.getD k 0 = q at *
  have e1 : w * (q - g) ≤ w * 1000 := Int.mul_le_mul_of_nonneg_left (by omega) (by omega)
  have e2 : w * (-1000) ≤ w * (q - g) := Int.mul_le_mul_of_nonneg_left (by omega) (by omega)
  omega
theorem sumF_bb {w : Int → Int} {l : List Int} {B : Int} (h : ∀ x ∈ l, -B ≤ w x ∧ w x ≤ B) : ∀ k, k ≤ l.length → -(k * B) ≤ sumF w l k ∧ sumF w l k ≤ k * B
  | 0, _ => by simp [sumF]
  | k + 1, hk => by
    have ih := sumF_bb h k (by omega)
    have hx := h (l.getD k 0) (getD_mem' (by omega))
    rw [sumF]
    have : ((k + 1 : Nat) : Int) * B = k * B + B := by rw [Int.natCast_add, Int.add_mul]; simp
    omega
theorem grpR_len (hs : List Int) (bs : List Bk) : (grpR hs bs).1.length ≤ hs.length := by
  unfold grpR
  split
  · simp [grpF_len]
  · simp
theorem grpR_mem {hs : List Int} {bs : List Bk} {k : Nat} : (∀ x ∈ (grpR hs bs).1.getD k [], 0 ≤ x ∧ x < bs.length) ∧ ((grpR hs bs).1.getD k []).length ≤ bs.length := by
  unfold grpR
  split
  · by_cases hk : k < hs.length
    · show (∀ x ∈ (grpL hs bs).getD k [], _) ∧ _
      rw [show (grpL hs bs).getD k [] = selK (gF hs bs) k bs.length from grpF_get hk]
      exact ⟨selK_b _ _ _, selK_len _ _ _⟩
    · have : (grpL hs bs).getD k [] = [] := by
        simp [List.getD, grpL, grpF_len, show hs.length ≤ k by omega]
      show (∀ x ∈ (grpL hs bs).getD k [], _) ∧ _
      rw [this]; simp
  · simp
theorem sumG_bb {w : Nat → Int → Int} {gs : List (List Int)} {B : Int} {m : Nat} (hB : 0 ≤ B) : ∀ k, (∀ j, j < k → (gs.getD j []).length ≤ m ∧ ∀ x ∈ gs.getD j [], -B ≤ w j x ∧ w j x ≤ B) → -(k * (m * B)) ≤ sumG w gs k ∧ sumG w gs k ≤ k * (m * B)
  | 0, _ => by simp [sumG]
  | k + 1, h => by
    have ih := sumG_bb (w := w) (gs := gs) (m := m) hB k (fun j hj => h j (by omega))
    obtain ⟨h1, h2⟩ := h k (by omega)
    have h3 := sumF_bb h2 _ (Nat.le_refl _)
    have h4 : ((gs.getD k []).length : Int) * B ≤ m * B := Int.mul_le_mul_of_nonneg_right (by omega) hB
    rw [sumG]
    have : ((k + 1 : Nat) : Int) * (m * B) = k * (m * B) + m * B := by rw [Int.natCast_add, Int.add_mul]; simp
    omega
theorem sumG_lim {hs : List Int} {bs : List Bk} (h : PreG hs bs) {k : Nat} (hk : k ≤ (grpR hs bs).1.length) : -36000000 ≤ sumG (wG hs bs) (grpR hs bs).1 k ∧ sumG (wG hs bs) (grpR hs bs).1 k ≤ 36000000 := by
  have hl := grpR_len hs bs
  have hs6 := h.2.2.2
  have h60 := h.1.2.2
  have hb := sumG_bb (w := wG hs bs) (gs := (grpR hs bs).1) (B := 100000) (m := 60) (by omega) k (fun j hj => ⟨by have := (grpR_mem (hs := hs) (bs := bs) (k := j)).2; omega, fun x hx => (wG_b h (by omega) ((grpR_mem (k := j)).1 x hx)).1⟩)
  have : (k : Int) * (60 * 100000) ≤ 36000000 := by omega
  have h2 : ((60 : Nat) : Int) * 100000 = 6000000 := rfl
  rw [h2] at hb
  omega
theorem sumFk_lim {hs : List Int} {bs : List Bk} (h : PreG hs bs) {k i : Nat} (hk : k < (grpR hs bs).1.length) (hi : i ≤ ((grpR hs bs).1.getD k []).length) : -6000000 ≤ sumF (wG hs bs k) ((grpR hs bs).1.getD k []) i ∧ sumF (wG hs bs k) ((grpR hs bs).1.getD k []) i ≤ 6000000 := by
  have hl := grpR_len hs bs
  have h60 := h.1.2.2
  have hm := (grpR_mem (hs := hs) (bs := bs) (k := k)).2
  have hb := sumF_bb (w := wG hs bs k) (B := 100000) (fun x hx => (wG_b h (by omega) ((grpR_mem (k := k)).1 x hx)).1) i hi
  have : (i : Int) * 100000 ≤ 6000000 := by omega
  omega
theorem sumA_bb {hs : List Int} {bs : List Bk} (h : PreG hs bs) (ha : allG hs bs) : ∀ i, i ≤ bs.length → -(i * 100000) ≤ sumA (wG hs bs) (gF hs bs) i ∧ sumA (wG hs bs) (gF hs bs) i ≤ i * 100000
  | 0, _ => by simp [sumA]
  | i + 1, hi => by
    have ih := sumA_bb h ha i (by omega)
    have hg := allG_lt ha i (by omega)
    have hw := (wG_b h (k := (gF hs bs i).toNat) (x := (i : Int)) (by omega) ⟨by omega, by omega⟩).1
    rw [sumA]
    omega
theorem gF_eq {hs : List Int} {bs : List Bk} {i : Nat} (h : (gF hs bs i == (hs.length : Int)) = false) : idxOf (isHigh (bs.getD i bk0).high) hs = gF hs bs i := by
  have h1 := idxOf_lt (isHigh (bs.getD i bk0).high) hs
  simp only [beq_eq_false_iff_ne, ne_eq] at h
  unfold gF fstOf at h ⊢
  split
  · rfl
  · rename_i h2; rw [if_neg h2] at h; exact absurd rfl h
noncomputable def wasteI (hs : List Int) (bs : List Bk) : Int × Bool := (sumG (wG hs bs) (grpR hs bs).1 (grpR hs bs).1.length, (grpR hs bs).2)
theorem wasteI_eq (hs : List Int) (bs : List Bk) : wasteI hs bs = if ask (allG hs bs) then (sumA (wG hs bs) (gF hs bs) bs.length, true) else (0, false) := by
  unfold wasteI grpR
  split
  · rename_i h
    have h := ask_iff.1 h
    show (sumG _ (grpL hs bs) (grpL hs bs).length, true) = _
    rw [show (grpL hs bs).length = hs.length from grpF_len _ _ _, sumG_sumA _ (fun j hj => allG_lt h j hj)]
  · rfl
noncomputable def wasteR (a b c : Int) (hs : List Int) (bs : List Bk) : Int × Int := if !validH a b c hs || !validBs bs then (0, 1) else if !ask (allG hs bs) then (0, 6) else (sumA (wG hs bs) (gF hs bs) bs.length, 0)
noncomputable def codeG (a b c : Int) (hs : List Int) (bs : List Bk) : Int := if !validH a b c hs || !validBs bs then 1 else if !ask (allG hs bs) then 6 else 0

theorem preG_of {a b c : Int} {hs : List Int} {bs : List Bk} (hv : ∀ b ∈ bs, isBk b) (h : (!validH a b c hs || !validBs bs) = false) : PreG hs bs := by
  simp only [Bool.or_eq_false_iff, Bool.not_eq_false'] at h
  obtain ⟨h1, h2, h3⟩ := validH_b2 h.1
  obtain ⟨h4, h5⟩ := validBs_b h.2
  exact ⟨⟨hv, h4, h5⟩, h1, h2, h3⟩
noncomputable def askR (a b c : Int) (hs : List Int) (bs : List Bk) : Int := if !validH a b c hs || !validBs bs then 1 else 0
theorem codeG_1 {a b c : Int} {hs : List Int} {bs : List Bk} (h : (!validH a b c hs || !validBs bs) = true) : codeG a b c hs bs = 1 := by rw [codeG, if_pos h]
theorem codeG_6 {a b c : Int} {hs : List Int} {bs : List Bk} (h : (!validH a b c hs || !validBs bs) = false) (h2 : ask (allG hs bs) = false) : codeG a b c hs bs = 6 := by rw [codeG, if_neg (by rw [h]; simp), if_pos (by rw [h2]; rfl)]
theorem codeG_0 {a b c : Int} {hs : List Int} {bs : List Bk} (h : (!validH a b c hs || !validBs bs) = false) (h2 : ask (allG hs bs) = true) : codeG a b c hs bs = 0 := by rw [codeG, if_neg (by rw [h]; simp), if_neg (by rw [h2]; simp)]
theorem codeG_ok {a b c : Int} {hs : List Int} {bs : List Bk} (h : (codeG a b c hs bs != 0) = false) : (!validH a b c hs || !validBs bs) = false ∧ allG hs bs := by
  cases h1 : (!validH a b c hs || !validBs bs) with
  | true => rw [codeG_1 h1] at h; simp at h
  | false =>
    cases h2 : ask (allG hs bs) with
    | false => rw [codeG_6 h1 h2] at h; simp at h
    | true => exact ⟨rfl, ask_iff.1 h2⟩
theorem grpR_snd (hs : List Int) (bs : List Bk) : (grpR hs bs).2 = ask (allG hs bs) := by
  unfold grpR
  cases h : ask (allG hs bs) <;> simp
noncomputable def wasteO (a b c : Int) (hs : List Int) (bs : List Bk) : Int × Int := if codeG a b c hs bs != 0 then (0, codeG a b c hs bs) else (sumA (wG hs bs) (gF hs bs) bs.length, 0)

noncomputable abbrev s_S_l04Asked : Spec ((Int × Int × Int) × List Int × List Bk) where
  args := fun x => [pegs x.1, .sl 1 (i64s x.2.1), .sl 8 (bks x.2.2)]
  pre := fun x => isPegs x.1 ∧ x.2.1.length ≤ 1048576 ∧ (∀ b ∈ x.2.2, isBk b) ∧ x.2.2.length ≤ 1048576
  res := fun x => .val (.int .i64 (askR x.1.1 x.1.2.1 x.1.2.2 x.2.1 x.2.2))

set_option maxRecDepth 20000 in
set_option maxHeartbeats 4000000 in
theorem ok_S_l04Asked : FnOk Pr 25 s_S_l04Asked := by
  refine fn_ok 3 0 T0_ok Go.Proofs.Try.func25 rfl (enters_of Go.Proofs.Try.func25 rfl rfl) (fun _ => rfl) (fun _ => rfl) (fun _ => rfl) ?_
  rintro ⟨⟨a, b, c⟩, hs, bs⟩ ⟨hp, hhl, hv, hl⟩ C hP hN hm hG
  change awp C _ _ ⟨[(0, .val (.agg #[.int .i16 a, .int .i16 b, .int .i16 c])), (1, .sl 1 (i64s hs)), (2, .sl 8 (bks bs))], [], 0⟩
  simp only at hhl hv hl
  refine awp_seq ?_
  refine r1 T0_ok hP hm hN ?_
  refine g1 ?_
  refine g1 ?_
  refine awp_seq ?_
  refine awp_seq ?_
  refine r1 T0_ok hP hm hN ?_
  refine g1 ?_
  refine g1 ?_
  refine gc1 ?_ (call1 ok_S_l04Ok ((_, _, _), _) [] (hargs := (by exact args_cons arga_val (args_cons arga_slsl (args_nil)))) (hpre := by (try dsimp only); exact ⟨hp, by omega⟩))
  refine g1 ?_
  refine g1 ?_
  refine gg1 ?_
  refine ggc1 ?_ (hs := by intro hb; simp +decide only [hb, gd_tt, gd_ff, beq_self_eq_true, Bool.true_and, beq_true]; exact ⟨rfl, _, call1 ok_S_l01Ok _ [] (hpre := by (try dsimp only); exact ⟨hv, by omega⟩), rfl, rfl, rfl⟩)
  refine gg1 ?_
  refine g1 ?_
  refine awp_cond rfl (fun hc0 => ?_) (fun hc0 => ?_)
  · skip
    rw [okH_validH] at hc0
    refine awp_seq ?_
    refine r1 T0_ok hP hm hN ?_
    refine g1 ?_
    refine awp_ret ?_
    refine fin_mk [] rfl rfl ?_ trivial (by decide)
    show D.val (.int .i64 (askR a b c hs bs)) = _
    rw [askR, if_pos hc0]
    rfl
  · skip
    rw [okH_validH] at hc0
    refine awp_skip ?_
    refine awp_seq ?_
    refine r1 T0_ok hP hm hN ?_
    refine g1 ?_
    refine awp_ret ?_
    refine fin_mk [] rfl rfl ?_ trivial (by decide)
    show D.val (.int .i64 (askR a b c hs bs)) = _
    rw [askR, if_neg (by rw [hc0]; simp)]
    rfl

noncomputable abbrev s_S_l04Grouped : Spec ((Int × Int × Int) × List Int × List Bk) where
  args := fun x => [pegs x.1, .sl 1 (i64s x.2.1), .sl 8 (bks x.2.2)]
  pre := fun x => isPegs x.1 ∧ x.2.1.length ≤ 1048576 ∧ (∀ b ∈ x.2.2, isBk b) ∧ x.2.2.length ≤ 1048576
  res := fun x => .val (.int .i64 (codeG x.1.1 x.1.2.1 x.1.2.2 x.2.1 x.2.2))

set_option maxRecDepth 20000 in
set_option maxHeartbeats 4000000 in
theorem ok_S_l04Grouped : FnOk Pr 17 s_S_l04Grouped := by
  refine fn_ok 3 0 T0_ok Go.Proofs.Try.func17 rfl (enters_of Go.Proofs.Try.func17 rfl rfl) (fun _ => rfl) (fun _ => rfl) (fun _ => rfl) ?_
  rintro ⟨⟨a, b, c⟩, hs, bs⟩ ⟨hp, hhl, hv, hl⟩ C hP hN hm hG
  change awp C _ _ ⟨[(0, .val (.agg #[.int .i16 a, .int .i16 b, .int .i16 c])), (1, .sl 1 (i64s hs)), (2, .sl 8 (bks bs))], [], 0⟩
  simp only at hhl hv hl
  refine awp_seq ?_
  refine r1 T0_ok hP hm hN ?_
  refine g1 ?_
  refine g1 ?_
  refine awp_seq ?_
  refine r1 T0_ok hP hm hN ?_
  refine g1 ?_
  refine g1 ?_
  refine g1 ?_
  refine gc1 ?_ (call1 ok_S_l04Asked ((_, _, _), _, _) [] (hpre := by (try dsimp only); exact ⟨hp, by omega, hv, by omega⟩))
  refine g1 ?_
  refine awp_seq ?_
  refine awp_seq ?_
  refine r1 T0_ok hP hm hN ?_
  refine g1 ?_
  refine g1 ?_
  refine g1 ?_
  refine gg1 ?_
  refine gg1 ?_
  refine ggc1 ?_ (hs := by intro hb; simp +decide only [hb, gd_tt, gd_ff, beq_self_eq_true, Bool.true_and, beq_true]; exact ⟨rfl, _, call1 ok_S_l04All (_, _) [] (hpre := by (try dsimp only); exact ⟨hv, by omega, by omega⟩), rfl, rfl, rfl⟩)
  refine gg1 ?_
  refine g1 ?_
  refine awp_cond rfl (fun hc0 => ?_) (fun hc0 => ?_)
  · skip
    refine r1 T0_ok hP hm hN ?_
    refine g1 ?_
    refine awp_seq ?_
    refine r1 T0_ok hP hm hN ?_
    refine g1 ?_
    refine g1 ?_
    refine awp_ret ?_
    refine fin_mk [] rfl rfl ?_ trivial (by decide)
    show D.val (.int .i64 (codeG a b c hs bs)) = D.val (.int .i64 6)
    rw [show codeG a b c hs bs = 6 by revert hc0; unfold codeG askR; cases (!validH a b c hs || !validBs bs) <;> cases ask (allG hs bs) <;> simp]
  · skip
    refine awp_skip ?_
    refine awp_seq ?_
    refine r1 T0_ok hP hm hN ?_
    refine g1 ?_
    refine g1 ?_
    refine awp_ret ?_
    refine fin_mk [] rfl rfl ?_ trivial (by decide)
    show D.val (.int .i64 (codeG a b c hs bs)) = D.val (.int .i64 (askR a b c hs bs))
    rw [show codeG a b c hs bs = askR a b c hs bs by revert hc0; unfold codeG askR; cases (!validH a b c hs || !validBs bs) <;> cases ask (allG hs bs) <;> simp]
end Go.Proofs.Ytnopmfjamjbphaa.Abs
