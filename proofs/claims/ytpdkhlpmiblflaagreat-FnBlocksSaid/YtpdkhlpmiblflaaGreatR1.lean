import Derived.Test.YtpdkhlpmiblflaaGreatS1
set_option linter.unusedVariables false
set_option linter.unusedSimpArgs false
namespace Go.Proofs.YtpdkhlpmiblflaaGreat.Abs
open Go Go.RowKit
def ltB (c : Int → Int → Int) (x y : Int) : Bool := decide (c x y < 0) || (decide (c x y = 0) && decide (x < y))
theorem ltB_iff {c : Int → Int → Int} {x y : Int} : ltB c x y = true ↔ ltC c x y := by simp [ltB, ltC]
def cntF (p : Nat → Bool) : Nat → Int
  | 0 => 0
  | k + 1 => if p k then cntF p k + 1 else cntF p k
theorem cntF_b (p : Nat → Bool) : ∀ n, 0 ≤ cntF p n ∧ cntF p n ≤ n
  | 0 => by simp [cntF]
  | n + 1 => by
    have := cntF_b p n
    rw [cntF]
    split <;> omega
theorem cntF_congr {p q : Nat → Bool} : ∀ n, (∀ k, k < n → p k = q k) → cntF p n = cntF q n
  | 0, _ => rfl
  | n + 1, h => by rw [cntF, cntF, cntF_congr n (fun k hk => h k (by omega)), h n (by omega)]
theorem cntF_iota (q : Int → Bool) : ∀ n, cntF (fun k => q (k : Nat)) n = ((iotaL n).countP q : Nat)
  | 0 => rfl
  | n + 1 => by
    rw [cntF, iotaL_suc, List.countP_append, cntF_iota q n, List.countP_singleton]
    split <;> simp_all
theorem cntF_list (q : Int → Bool) (xs : List Int) : cntF (fun k => q (xs.getD k 0)) xs.length = (xs.countP q : Nat) := by
  have key : ∀ n, n ≤ xs.length → cntF (fun k => q (xs.getD k 0)) n = ((xs.take n).countP q : Nat) := by
    intro n
    induction n with
    | zero => intro _; rfl
    | succ n ih =>
      intro hn
      have hlt : n < xs.length := by omega
      rw [cntF, ih (by omega), List.take_add_one, List.countP_append, List.getElem?_eq_getElem hlt]
      simp only [Option.toList_some, List.countP_singleton]
      rw [show xs.getD n 0 = xs[n] by simp [List.getD, hlt]]
      split <;> simp_all
  have := key xs.length (Nat.le_refl _)
  rwa [List.take_length] at this
theorem cntF_perm {n : Nat} {sp : List Int} (hp : sp.Perm (iotaL n)) (q : Int → Bool) : cntF (fun k => q (k : Nat)) n = cntF (fun k => q (sp.getD k 0)) n := by
  have hl : sp.length = n := by rw [hp.length_eq, iotaL_len]
  rw [cntF_iota, ← hp.countP_eq q, ← cntF_list, hl]
structure InvP (n : Nat) (sp rk : List Int) : Prop where
  perm : sp.Perm (iotaL n)
  rkl : rk.length = n
  inv : ∀ r, r < n → rk.getD (sp.getD r 0).toNat 0 = r
section
variable {n : Nat} {sp rk : List Int} (h : InvP n sp rk)
include h
theorem InvP.spl : sp.length = n := by rw [h.perm.length_eq, iotaL_len]
theorem InvP.rng {r : Nat} (hr : r < n) : 0 ≤ sp.getD r 0 ∧ sp.getD r 0 < n := by
  refine iotaL_mem (h.perm.mem_iff.1 ?_)
  rw [List.getD, List.getElem?_eq_getElem (by rw [h.spl]; exact hr)]
  exact List.getElem_mem _
theorem InvP.sur {i : Nat} (hi : i < n) : ∃ r, r < n ∧ sp.getD r 0 = i ∧ rk.getD i 0 = r := by
  have hm : (i : Int) ∈ sp := h.perm.mem_iff.2 (by simp [iotaL]; exact ⟨i, hi, rfl⟩)
  obtain ⟨r, hr, he⟩ := List.getElem_of_mem hm
  rw [h.spl] at hr
  have e : sp.getD r 0 = i := by rw [List.getD, List.getElem?_eq_getElem (by rw [h.spl]; exact hr)]; exact he
  refine ⟨r, hr, e, ?_⟩
  have := h.inv r hr
  rwa [e, Int.toNat_natCast] at this
theorem InvP.inj {r s : Nat} (hr : r < n) (hs : s < n) (e : sp.getD r 0 = sp.getD s 0) : r = s := by
  have h1 := h.inv r hr
  have h2 := h.inv s hs
  rw [e] at h1
  omega
theorem InvP.rkr {i : Nat} (hi : i < n) : 0 ≤ rk.getD i 0 ∧ rk.getD i 0 < n := by
  obtain ⟨r, h1, _, h3⟩ := h.sur hi
  omega
theorem InvP.eq {i r : Nat} (hi : i < n) (hr : r < n) : rk.getD i 0 = r ↔ sp.getD r 0 = i := by
  obtain ⟨s, h1, h2, h3⟩ := h.sur hi
  constructor
  · intro e
    have : s = r := by omega
    subst this; exact h2
  · intro e
    have := h.inj hr h1 (e.trans h2.symm)
    omega
end
theorem inv_of {c : Int → Int → Int} (hc : OrdC c) {n : Nat} {rk : List Int} (hl : rk.length = n) (hr : ∀ i, i < n → rk.getD i 0 = cntF (fun k => ltB c (k : Nat) (i : Nat)) n) : InvP n (srt c 0 n (iotaL n)) rk := by
  obtain ⟨s1, s2⟩ := srt_ok hc (Nat.zero_le n) (by rw [iotaL_len]; exact Nat.le_refl _) (fun i j _ h2 h3 => by rw [iotaL_get (by omega), iotaL_get h3]; omega)
  generalize srt c 0 n (iotaL n) = sp at *
  have hsl : sp.length = n := by rw [s1.len, iotaL_len]
  refine ⟨s1.perm, hl, fun r hlt => ?_⟩
  have hm : 0 ≤ sp.getD r 0 ∧ sp.getD r 0 < n := by
    refine iotaL_mem (s1.perm.mem_iff.1 ?_)
    rw [List.getD, List.getElem?_eq_getElem (by omega)]
    exact List.getElem_mem _
  rw [hr _ (by omega), show (((sp.getD r 0).toNat : Nat) : Int) = sp.getD r 0 by omega]
  rw [cntF_perm s1.perm (fun v => ltB c v (sp.getD r 0))]
  have e : ∀ k, k < n → ltB c (sp.getD k 0) (sp.getD r 0) = decide (k < r) := fun k hk => by
    rw [Bool.eq_iff_iff, ltB_iff, decide_eq_true_eq]
    constructor
    · intro h1
      rcases Nat.lt_trichotomy k r with h2 | h2 | h2
      · exact h2
      · subst h2; exact (ltC_irrefl hc h1).elim
      · exact (ltC_asymm hc h1 (s2 r k (Nat.zero_le _) h2 hk)).elim
    · intro h1; exact s2 k r (Nat.zero_le _) h1 hlt
  rw [cntF_congr n e]
  have : ∀ m, cntF (fun k => decide (k < r)) m = (min m r : Nat) := by
    intro m
    induction m with
    | zero => simp [cntF]
    | succ m ih =>
      rw [cntF, ih]
      split
      · rename_i h1; simp at h1; omega
      · rename_i h1; simp at h1; omega
  rw [this]; omega
/-! ### Breaks -/
def lastP (sp : List Int) (r : Nat) : Int := if r = 0 then -1 else sp.getD (r - 1) 0
def brkI (sp : List Int) (r : Nat) : Bool := sp.getD r 0 != lastP sp r + 1
def brkS (rk : List Int) (i : Nat) : Bool := ((i : Int) == 0 && rk.getD i 0 != 0) || (decide ((i : Int) > 0) && rk.getD i 0 != rk.getD (i - 1) 0 + 1)
theorem brk_eq {n : Nat} {sp rk : List Int} (h : InvP n sp rk) : cntF (brkS rk) n = cntF (brkI sp) n := by
  have e1 : cntF (brkS rk) n = cntF (fun k => (fun v : Int => brkS rk v.toNat) (k : Nat)) n := cntF_congr n (fun k _ => by simp)
  rw [e1, cntF_perm h.perm (fun v : Int => brkS rk v.toNat)]
  refine cntF_congr n (fun r hr => ?_)
  show brkS rk (sp.getD r 0).toNat = brkI sp r
  have hg := h.rng hr
  obtain ⟨i, hi⟩ : ∃ i : Nat, sp.getD r 0 = i := ⟨(sp.getD r 0).toNat, by omega⟩
  have hin : i < n := by omega
  have hir : rk.getD i 0 = r := (h.eq hin hr).2 hi
  rw [brkI, hi, Int.toNat_natCast, brkS, hir, lastP]
  rw [Bool.eq_iff_iff]
  simp only [Bool.or_eq_true, Bool.and_eq_true, beq_iff_eq, bne_iff_ne, ne_eq, decide_eq_true_eq]
  by_cases hr0 : r = 0
  · rw [if_pos hr0]
    subst hr0
    constructor
    · rintro (⟨h1, h2⟩ | ⟨h1, h2⟩)
      · simp at h2
      · omega
    · intro h1
      right
      have := h.rkr (show i - 1 < n by omega)
      omega
  · rw [if_neg hr0]
    have hg2 := h.rng (show r - 1 < n by omega)
    constructor
    · rintro (⟨h1, h2⟩ | ⟨h1, h2⟩)
      · omega
      · intro h3
        have := (h.eq (show i - 1 < n by omega) (show r - 1 < n by omega)).2 (by omega)
        omega
    · intro h1
      by_cases hi0 : i = 0
      · left; omega
      · right
        refine ⟨by omega, fun h2 => h1 ?_⟩
        have := (h.eq (show i - 1 < n by omega) (show r - 1 < n by omega)).1 (by omega)
        omega
/-! ### Passes -/
/-! ### Swaps -/
def rkB (bs : List Bk) (i k : Nat) : Bool := ltB (cP bs) (k : Nat) (i : Nat)
def rkR (bs : List Bk) : Nat → List Int
  | 0 => []
  | i + 1 => rkR bs i ++ [cntF (rkB bs i) bs.length]
theorem rkR_len (bs : List Bk) : ∀ i, (rkR bs i).length = i
  | 0 => rfl
  | i + 1 => by rw [rkR, List.length_append, rkR_len bs i]; rfl
theorem rkR_get (bs : List Bk) : ∀ i j, j < i → (rkR bs i).getD j 0 = cntF (rkB bs j) bs.length
  | 0, j, h => by omega
  | i + 1, j, h => by
    have hl := rkR_len bs i
    rw [rkR]
    by_cases e : j < i
    · rw [← rkR_get bs i j e, List.getD, List.getElem?_append_left (by omega)]; rfl
    · have : j = i := by omega
      subst this
      rw [List.getD, List.getElem?_append_right (by omega), hl, Nat.sub_self]; rfl
abbrev rkL (bs : List Bk) : List Int := rkR bs bs.length
theorem inv_rk (bs : List Bk) : InvP bs.length (plcL bs) (rkL bs) := inv_of (ord_cP bs) (rkR_len bs _) (fun i hi => rkR_get bs _ i hi)
theorem rkL_b (bs : List Bk) (j : Nat) : 0 ≤ (rkL bs).getD j 0 ∧ (rkL bs).getD j 0 ≤ bs.length := by
  by_cases e : j < bs.length
  · rw [rkR_get bs _ j e]; exact cntF_b _ _
  · have : (rkL bs).getD j 0 = 0 := by
      have h2 : (rkL bs).length = bs.length := rkR_len bs bs.length
      simp [List.getD, show (rkL bs).length ≤ j by omega]
    omega
theorem plcL_b (bs : List Bk) {r : Nat} (h : r < bs.length) : 0 ≤ (plcL bs).getD r 0 ∧ (plcL bs).getD r 0 < bs.length := (inv_rk bs).rng h
theorem lastP_b {n : Nat} {sp rk : List Int} (h : InvP n sp rk) {r : Nat} (hr : r ≤ n) : -1 ≤ lastP sp r ∧ lastP sp r ≤ n := by
  unfold lastP
  split
  · omega
  · have := h.rng (show r - 1 < n by omega)
    omega
theorem lastP_suc (sp : List Int) (r : Nat) : lastP sp (r + 1) = sp.getD r 0 := by rw [lastP, if_neg (by omega)]; rfl
theorem pick_and2 (t x : Bool) : (if t = true then gd (t == true) true (.val (.bool x)) else .val (.bool false)) = .val (.bool (t && x)) := by cases t <;> rfl
theorem valid60 {xs : List Bk} (h : (!validBs xs) = false) : xs.length ≤ 60 := by
  simp only [Bool.not_eq_false', validBs, Bool.and_eq_true, decide_eq_true_eq] at h
  omega
def brkR (xs : List Bk) : Int × Int := if !validBs xs then (0, 1) else (cntF (brkS (rkL xs)) xs.length, 0)

noncomputable abbrev s_S_l03Ranks : Spec (List Bk) where
  args := fun xs => [.sl 8 (bks xs)]
  pre := fun xs => (∀ b ∈ xs, isBk b) ∧ xs.length ≤ 1048576
  new := fun xs => [⟨2, 1, false, i64s (rkL xs)⟩]
  res := fun xs => .own 0

set_option maxRecDepth 20000 in
set_option maxHeartbeats 8000000 in
theorem ok_S_l03Ranks : FnOk Pr 36 s_S_l03Ranks := by
 refine fn_ok 1 0 T0_ok Go.Proofs.Tryz.func36 rfl (enters_of Go.Proofs.Tryz.func36 rfl rfl) (fun _ => rfl) (fun _ => rfl) (fun _ => rfl) ?_
 rintro xs ⟨hv, hl⟩ C hP hN hm hG
 change awp C _ _ ⟨[(0, .sl 8 (bks xs))], [], 0⟩
 refine awp_seq ?_
 refine r1 T0_ok hP hm hN ?_
 refine g1 ?_
 refine awp_seq ?_
 refine r1 T0_ok hP hm hN ?_
 iterate 2 refine g1 ?_
 refine awp_seq ?_
 refine awp_seq ?_
 refine r1 T0_ok hP hm hN ?_
 refine g1 ?_
 refine awp_block ?_
 refine awp_loop (fun n st => ∃ i : Nat, i ≤ xs.length ∧ n = xs.length - i ∧ st = ⟨[(4, .val (.int .i64 ((i : Nat) : Int))), (3, .own 0), (0, .sl 8 (bks xs))], [(0, ⟨2, 1, false, i64s (rkR xs i)⟩)], 1⟩) (xs.length) ⟨_, weak_sl (sub_cons rfl (sub_cons rfl (sub_cons rfl (sub_nil)))), 0, by omega, rfl, rfl⟩ ?_
 rintro n st ⟨i, hii, hni, rfl⟩
 have hrl := rkR_len xs i
 refine awp_seq ?_
 refine awp_seq ?_
 refine r1 T0_ok hP hm hN ?_
 iterate 4 refine g1 ?_
 refine awp_cond rfl (fun hc0 => ?_) (fun hc0 => ?_)
 ·
  have hlti : i < xs.length := by simpa using hc0
  refine awp_skip ?_
  refine awp_seq ?_
  refine awp_block ?_
  refine awp_seq ?_
  refine r1 T0_ok hP hm hN ?_
  refine g1 ?_
  refine awp_seq ?_
  refine awp_seq ?_
  refine r1 T0_ok hP hm hN ?_
  refine g1 ?_
  refine awp_block ?_
  refine awp_loop (fun n st => ∃ k : Nat, k ≤ xs.length ∧ n = xs.length - k ∧ st = ⟨[(6, .val (.int .i64 ((k : Nat) : Int))), (5, .val (.int .i64 (cntF (rkB xs i) k))), (4, .val (.int .i64 ((i : Nat) : Int))), (3, .own 0), (0, .sl 8 (bks xs))], [(0, ⟨2, 1, false, i64s (rkR xs i)⟩)], 1⟩) (xs.length) ⟨_, weak_sl (sub_cons rfl (sub_cons rfl (sub_cons rfl (sub_cons rfl (sub_cons rfl (sub_nil)))))), 0, by omega, rfl, rfl⟩ ?_
  rintro n st ⟨k, hik, hnk, rfl⟩
  have hcb := cntF_b (rkB xs i) k
  refine awp_seq ?_
  refine awp_seq ?_
  refine r1 T0_ok hP hm hN ?_
  iterate 4 refine g1 ?_
  refine awp_cond rfl (fun h18 => ?_) (fun h18 => ?_)
  ·
   have hltk : k < xs.length := by simpa using h18
   refine awp_skip ?_
   refine awp_seq ?_
   refine awp_block ?_
   refine awp_seq ?_
   refine awp_draw T0_ok hP hm hN Pr_mix [0, 1, 2, 3, 4, 5, 6, 7, 8, 9, 10, 11] [6] _ rfl (by rfl) ?_
   iterate 6 refine d1 T0_ok ?_
   refine dp1 ?_ (call1 ok_S_l01Usual ((_, _, _, 0, xs.getD k bk0), (_, _, _, 0, xs.getD i bk0), false) [] (hpre := by (try dsimp only); exact ⟨⟨bks_get _ _ (by omega), hv _ (getD_mem' (by omega))⟩, ⟨bks_get _ _ (by omega), hv _ (getD_mem' (by omega))⟩⟩))
   refine d1 T0_ok ?_
   refine dreg_nil ?_
   refine awp_seq ?_
   refine r1 T0_ok hP hm hN ?_
   iterate 3 refine g1 ?_
   cases hs0 : decide (cmpU (xs.getD k bk0) (xs.getD i bk0) < 0)
   ·
    iterate 3 refine gy1 ?_
    cases hs1 : (cmpU (xs.getD k bk0) (xs.getD i bk0) == 0)
    ·
     iterate 3 (first | refine gn1 ?_ | refine gu1 ?_)
     refine gy1 ?_
     refine g1 ?_
     refine awp_cond rfl (fun h38 => ?_) (fun h38 => ?_)
     ·
      have hb : rkB xs i k = true := by simp only [rkB, ltB, cP, Int.toNat_natCast]; simp_all
      have hle : (if rkB xs i k = true then cntF (rkB xs i) k + 1 else cntF (rkB xs i) k) = cntF (rkB xs i) k + 1 := by rw [hb]; rfl
      refine r1 T0_ok hP hm hN ?_
      iterate 3 refine g1 ?_
      refine r1 T0_ok hP hm hN ?_
      iterate 3 refine g1 ?_
      refine ⟨xs.length - (k + 1), _, by omega, (by rw [cntF, hle]; exact weak_sl (sub_cons rfl (sub_cons rfl (sub_cons rfl (sub_cons rfl (sub_cons rfl (sub_nil))))))), k + 1, by omega, rfl, rfl⟩
     ·
      have hb : rkB xs i k = false := by simp only [rkB, ltB, cP, Int.toNat_natCast]; simp_all
      have hle : (if rkB xs i k = true then cntF (rkB xs i) k + 1 else cntF (rkB xs i) k) = cntF (rkB xs i) k := by rw [hb]; rfl
      refine awp_skip ?_
      refine r1 T0_ok hP hm hN ?_
      iterate 3 refine g1 ?_
      refine ⟨xs.length - (k + 1), _, by omega, (by rw [cntF, hle]; exact weak_sl (sub_cons rfl (sub_cons rfl (sub_cons rfl (sub_cons rfl (sub_cons rfl (sub_nil))))))), k + 1, by omega, rfl, rfl⟩
    ·
     iterate 4 refine gy1 ?_
     refine g1 ?_
     refine awp_cond rfl (fun h38 => ?_) (fun h38 => ?_)
     ·
      have hb : rkB xs i k = true := by simp only [rkB, ltB, cP, Int.toNat_natCast]; simp_all
      have hle : (if rkB xs i k = true then cntF (rkB xs i) k + 1 else cntF (rkB xs i) k) = cntF (rkB xs i) k + 1 := by rw [hb]; rfl
      refine r1 T0_ok hP hm hN ?_
      iterate 3 refine g1 ?_
      refine r1 T0_ok hP hm hN ?_
      iterate 3 refine g1 ?_
      refine ⟨xs.length - (k + 1), _, by omega, (by rw [cntF, hle]; exact weak_sl (sub_cons rfl (sub_cons rfl (sub_cons rfl (sub_cons rfl (sub_cons rfl (sub_nil))))))), k + 1, by omega, rfl, rfl⟩
     ·
      have hb : rkB xs i k = false := by simp only [rkB, ltB, cP, Int.toNat_natCast]; simp_all
      have hle : (if rkB xs i k = true then cntF (rkB xs i) k + 1 else cntF (rkB xs i) k) = cntF (rkB xs i) k := by rw [hb]; rfl
      refine awp_skip ?_
      refine r1 T0_ok hP hm hN ?_
      iterate 3 refine g1 ?_
      refine ⟨xs.length - (k + 1), _, by omega, (by rw [cntF, hle]; exact weak_sl (sub_cons rfl (sub_cons rfl (sub_cons rfl (sub_cons rfl (sub_cons rfl (sub_nil))))))), k + 1, by omega, rfl, rfl⟩
   ·
    iterate 7 (first | refine gn1 ?_ | refine gu1 ?_)
    refine g1 ?_
    refine awp_cond rfl (fun h38 => ?_) (fun h38 => ?_)
    ·
     have hb : rkB xs i k = true := by simp only [rkB, ltB, cP, Int.toNat_natCast]; simp_all
     have hle : (if rkB xs i k = true then cntF (rkB xs i) k + 1 else cntF (rkB xs i) k) = cntF (rkB xs i) k + 1 := by rw [hb]; rfl
     refine r1 T0_ok hP hm hN ?_
     iterate 3 refine g1 ?_
     refine r1 T0_ok hP hm hN ?_
     iterate 3 refine g1 ?_
     refine ⟨xs.length - (k + 1), _, by omega, (by rw [cntF, hle]; exact weak_sl (sub_cons rfl (sub_cons rfl (sub_cons rfl (sub_cons rfl (sub_cons rfl (sub_nil))))))), k + 1, by omega, rfl, rfl⟩
    ·
     have hb : rkB xs i k = false := by simp only [rkB, ltB, cP, Int.toNat_natCast]; simp_all
     have hle : (if rkB xs i k = true then cntF (rkB xs i) k + 1 else cntF (rkB xs i) k) = cntF (rkB xs i) k := by rw [hb]; rfl
     refine awp_skip ?_
     refine r1 T0_ok hP hm hN ?_
     iterate 3 refine g1 ?_
     refine ⟨xs.length - (k + 1), _, by omega, (by rw [cntF, hle]; exact weak_sl (sub_cons rfl (sub_cons rfl (sub_cons rfl (sub_cons rfl (sub_cons rfl (sub_nil))))))), k + 1, by omega, rfl, rfl⟩
  ·
   have hgek : ¬ k < xs.length := by simpa using h18
   obtain rfl : k = xs.length := by omega
   refine awp_exit ?_
   repeat refine thenA_exit ?_
   refine blockA_hit ?_
   refine r1 T0_ok hP hm hN ?_
   iterate 3 refine g1 ?_
   refine ga1 ?_
   refine g1 ?_
   refine r1 T0_ok hP hm hN ?_
   iterate 3 refine g1 ?_
   refine ⟨xs.length - (i + 1), _, by omega, (by rw [rkR, i64s_app2]; exact Weak.trans (weak_drop 1) (Weak.trans (weak_nx (nx' := 1) (by omega) (by rfl)) (weak_sl (sub_cons rfl (sub_cons rfl (sub_cons rfl (sub_nil))))))), i + 1, by omega, rfl, rfl⟩
 ·
  have hgei : ¬ i < xs.length := by simpa using hc0
  have heqi : i = xs.length := by omega
  rw [heqi]
  refine awp_exit ?_
  repeat refine thenA_exit ?_
  refine blockA_hit ?_
  refine awp_seq ?_
  refine r1 T0_ok hP hm hN ?_
  iterate 2 refine g1 ?_
  refine awp_ret ?_
  refine fin_mk [0] rfl rfl ?_ (objs_cons rfl rfl rfl rfl rfl (.inl rfl) objs_nil) (by decide)
  rfl

noncomputable abbrev s_S_BreaksOf : Spec (List Bk) where
  args := fun xs => [.sl 8 (bks xs)]
  pre := fun xs => (∀ b ∈ xs, isBk b) ∧ xs.length ≤ 19
  res := fun xs => .tup [.val (.int .i64 (brkR xs).1), .val (.int .i64 (brkR xs).2)]

set_option maxRecDepth 20000 in
set_option maxHeartbeats 4000000 in
theorem ok_S_BreaksOf : FnOk Pr 12 s_S_BreaksOf := by
 refine fn_ok 1 0 T0_ok Go.Proofs.Tryz.func12 rfl (enters_of Go.Proofs.Tryz.func12 rfl rfl) (fun _ => rfl) (fun _ => rfl) (fun _ => rfl) ?_
 rintro xs ⟨hv, hl⟩ C hP hN hm hG
 change awp C _ _ ⟨[(0, .sl 8 (bks xs))], [], 0⟩
 have xn1 := @tn1
 refine awp_seq ?_
 refine r1 T0_ok hP hm hN ?_
 iterate 2 refine g1 ?_
 refine awp_seq ?_
 refine awp_seq ?_
 refine r1 T0_ok hP hm hN ?_
 refine g1 ?_
 refine gc1 ?_ (call1 ok_S_l01Ok _ [] (hpre := by (try dsimp only); exact ⟨hv, by omega⟩))
 refine g1 ?_
 refine awp_cond rfl (fun hc0 => ?_) (fun hc0 => ?_)
 ·
  have hr : brkR xs = (0, 1) := by rw [brkR, if_pos hc0]
  refine awp_seq ?_
  refine r1 T0_ok hP hm hN ?_
  iterate 2 refine g1 ?_
  refine awp_ret ?_
  refine fin_mk [] rfl rfl ?_ trivial (by decide)
  show D.tup [.val (.int .i64 (brkR xs).1), .val (.int .i64 (brkR xs).2)] = _
  rw [hr]
  rfl
 ·
  have hr : brkR xs = (cntF (brkS (rkL xs)) xs.length, 0) := by rw [brkR, if_neg (by rw [hc0]; simp)]
  have h60 := valid60 hc0
  have hIv := inv_rk xs
  have hpl := plcL_len xs
  have hrl : (rkL xs).length = xs.length := rkR_len xs xs.length
  refine awp_skip ?_
  refine awp_seq ?_
  refine r1 T0_ok hP hm hN ?_
  refine g1 ?_
  refine gc1 ?_ (call1 ok_S_l03Ranks _ [] (hpre := by (try dsimp only); exact ⟨hv, by omega⟩))
  refine g1 ?_
  refine awp_seq ?_
  refine r1 T0_ok hP hm hN ?_
  refine g1 ?_
  refine awp_seq ?_
  refine awp_seq ?_
  refine r1 T0_ok hP hm hN ?_
  refine g1 ?_
  refine awp_block ?_
  refine awp_loop (fun n st => ∃ i : Nat, i ≤ xs.length ∧ n = xs.length - i ∧ st = ⟨[(6, .val (.int .i64 ((i : Nat) : Int))), (5, .val (.int .i64 (cntF (brkS (rkL xs)) i))), (4, .own 0), (0, .sl 8 (bks xs))], [(0, ⟨2, 1, false, i64s (rkL xs)⟩)], 1⟩) (xs.length) ⟨_, weak_sl (sub_cons rfl (sub_cons rfl (sub_cons rfl (sub_cons rfl (sub_nil))))), 0, by omega, rfl, rfl⟩ ?_
  rintro n st ⟨i, hii, hni, rfl⟩
  have hcb := cntF_b (brkS (rkL xs)) i
  have hb1 := rkL_b xs i
  have hb2 := rkL_b xs (i - 1)
  refine awp_seq ?_
  refine awp_seq ?_
  refine r1 T0_ok hP hm hN ?_
  iterate 4 refine g1 ?_
  refine awp_cond rfl (fun hc1 => ?_) (fun hc1 => ?_)
  ·
   have hlti : i < xs.length := by rw [← hrl]; simpa using hc1
   refine awp_skip ?_
   refine awp_seq ?_
   refine awp_block ?_
   refine awp_seq ?_
   refine awp_draw T0_ok hP hm hN Pr_mix [0, 1, 2, 3, 4, 5, 6, 7, 8, 9, 10, 11] [] _ rfl (by rfl) ?_
   iterate 3 refine d1 T0_ok ?_
   iterate 5 refine dg1 T0_ok ?_
   iterate 2 refine d1 T0_ok ?_
   iterate 3 refine dg1 T0_ok ?_
   iterate 7 refine dgg1 T0_ok ?_
   refine dgg1 T0_ok ?_ (hs := by intro he hb; simp +decide only [he, hb, gd_tt, gd_ff, beq_self_eq_true, Bool.true_and, beq_true]; exact ⟨_, by first | rfl | exact astep_load_r (by rfl) (by rfl) (by exact i64s_get _ _ (by omega)) (by rfl) | exact astep_load_r (by rfl) (by rfl) (by first | exact bks_get _ _ (by omega) | exact pls_get _ _ (by omega) | exact ints_get _ _ _ (by omega) | exact boolD_get _ _ (by omega) | exact i64ss_get _ _ (by omega) | assumption) (by rfl) | exact astep_store_p (by rfl) (by rfl) (by rfl) (by rfl) (by exact i64s_get _ _ (by omega)), by exact ⟨rfl, (by simp at hb; omega), by (try simp only [List.length_map]); omega⟩⟩)
   iterate 3 refine dgg1 T0_ok ?_
   refine dg1 T0_ok ?_ (hdn := by simp +decide (disch := omega) only [nrm, lk_nrm, dc_nrm, mk_nrm, mf_nrm, ti_nrm, ls_nrm, mp_nrm, nb_nrm, hset, pick_and, pick_or, ↓reduceIte, Nat.reduceAdd, wI64, wI32, wI16, wI8, wU8, List.length_map, Int.toNat_natCast, xn1, xn2, mask_nrm, pick_and2]; rfl) (hsl := by simp +decide (disch := omega) only [nrm, lk_nrm, dc_nrm, mk_nrm, mf_nrm, ti_nrm, ls_nrm, mp_nrm, nb_nrm, hset, pick_and, pick_or, ↓reduceIte, Nat.reduceAdd, wI64, wI32, wI16, wI8, wU8, List.length_map, Int.toNat_natCast, xn1, xn2, mask_nrm, pick_and2]; rfl)
   refine d1 T0_ok ?_
   refine dreg_nil ?_
   refine awp_cond rfl (fun hc2 => ?_) (fun hc2 => ?_)
   ·
    have hbk : brkS (rkL xs) i = true := hc2
    have hle : (if brkS (rkL xs) i = true then cntF (brkS (rkL xs)) i + 1 else cntF (brkS (rkL xs)) i) = cntF (brkS (rkL xs)) i + 1 := by rw [hbk]; rfl
    refine r1 T0_ok hP hm hN ?_
    iterate 3 refine g1 ?_
    refine r1 T0_ok hP hm hN ?_
    iterate 3 refine g1 ?_
    refine ⟨xs.length - (i + 1), _, by omega, (by rw [cntF, hle]; exact weak_sl (sub_cons rfl (sub_cons rfl (sub_cons rfl (sub_cons rfl (sub_nil)))))), i + 1, by omega, rfl, rfl⟩
   ·
    have hbk : brkS (rkL xs) i = false := hc2
    have hle : (if brkS (rkL xs) i = true then cntF (brkS (rkL xs)) i + 1 else cntF (brkS (rkL xs)) i) = cntF (brkS (rkL xs)) i := by rw [hbk]; rfl
    refine awp_skip ?_
    refine r1 T0_ok hP hm hN ?_
    iterate 3 refine g1 ?_
    refine ⟨xs.length - (i + 1), _, by omega, (by rw [cntF, hle]; exact weak_sl (sub_cons rfl (sub_cons rfl (sub_cons rfl (sub_cons rfl (sub_nil)))))), i + 1, by omega, rfl, rfl⟩
  ·
   have hgei : ¬ i < xs.length := by rw [← hrl]; simpa using hc1
   obtain rfl : i = xs.length := by omega
   refine awp_exit ?_
   repeat refine thenA_exit ?_
   refine blockA_hit ?_
   refine awp_seq ?_
   refine r1 T0_ok hP hm hN ?_
   iterate 3 refine g1 ?_
   refine awp_ret ?_
   refine fin_mk [] rfl rfl ?_ trivial (by decide)
   show D.tup [.val (.int .i64 (brkR xs).1), .val (.int .i64 (brkR xs).2)] = _
   rw [hr]
   rfl

noncomputable abbrev s_I_BreaksOf : Spec (List Bk) where
  args := fun xs => [.sl 8 (bks xs)]
  pre := fun xs => (∀ b ∈ xs, isBk b) ∧ xs.length ≤ 19
  res := fun xs => .tup [.val (.int .i64 (brkR xs).1), .val (.int .i64 (brkR xs).2)]

set_option maxRecDepth 20000 in
set_option maxHeartbeats 4000000 in
theorem ok_I_BreaksOf : FnOk Pr 11 s_I_BreaksOf := by
 refine fn_ok 1 0 T0_ok Go.Proofs.Tryz.func11 rfl (enters_of Go.Proofs.Tryz.func11 rfl rfl) (fun _ => rfl) (fun _ => rfl) (fun _ => rfl) ?_
 rintro xs ⟨hv, hl⟩ C hP hN hm hG
 change awp C _ _ ⟨[(0, .sl 8 (bks xs))], [], 0⟩
 have xn1 := @plcL_len
 refine awp_seq ?_
 refine r1 T0_ok hP hm hN ?_
 iterate 2 refine g1 ?_
 refine awp_seq ?_
 refine awp_seq ?_
 refine r1 T0_ok hP hm hN ?_
 refine g1 ?_
 refine gc1 ?_ (call1 ok_I_ValidBooks _ [] (hpre := by (try dsimp only); omega))
 refine g1 ?_
 refine awp_cond rfl (fun hc0 => ?_) (fun hc0 => ?_)
 ·
  have hr : brkR xs = (0, 1) := by rw [brkR, if_pos hc0]
  refine awp_seq ?_
  refine r1 T0_ok hP hm hN ?_
  iterate 2 refine g1 ?_
  refine awp_ret ?_
  refine fin_mk [] rfl rfl ?_ trivial (by decide)
  show D.tup [.val (.int .i64 (brkR xs).1), .val (.int .i64 (brkR xs).2)] = _
  rw [hr]
  rfl
 ·
  have hr : brkR xs = (cntF (brkS (rkL xs)) xs.length, 0) := by rw [brkR, if_neg (by rw [hc0]; simp)]
  have h60 := valid60 hc0
  have hIv := inv_rk xs
  have hpl := plcL_len xs
  have hrl : (rkL xs).length = xs.length := rkR_len xs xs.length
  refine awp_skip ?_
  refine awp_seq ?_
  refine r1 T0_ok hP hm hN ?_
  iterate 2 refine g1 ?_
  refine awp_seq ?_
  refine awp_seq ?_
  refine r1 T0_ok hP hm hN ?_
  refine g1 ?_
  refine gc1 ?_ (call1 ok_I_sortedPlaces _ [] (hpre := by (try dsimp only); omega))
  iterate 2 refine g1 ?_
  refine awp_block ?_
  refine awp_loop (fun n st => ∃ i : Nat, i ≤ xs.length ∧ n = xs.length - i ∧ st = ⟨[(14, .val (.int .i64 ((i : Nat) : Int))), (13, .val (.int .i64 ((xs.length : Nat) : Int))), (12, .own 0), (5, .val (.int .i64 (lastP (plcL xs) i))), (4, .val (.int .i64 (cntF (brkI (plcL xs)) i))), (0, .sl 8 (bks xs))], [(0, ⟨3, 1, false, i64s (plcL xs)⟩)], 1⟩) (xs.length) ⟨_, weak_sl (sub_cons rfl (sub_cons rfl (sub_cons rfl (sub_cons rfl (sub_cons rfl (sub_cons rfl (sub_nil))))))), 0, by omega, rfl, rfl⟩ ?_
  rintro n st ⟨i, hii, hni, rfl⟩
  have hcb := cntF_b (brkI (plcL xs)) i
  have hlb := lastP_b hIv hii
  refine awp_seq ?_
  refine r1 T0_ok hP hm hN ?_
  refine g1 ?_
  refine awp_seq ?_
  refine awp_cond rfl (fun hc1 => ?_) (fun hc1 => ?_)
  ·
   have hlti : i < xs.length := by simpa using hc1
   have hpb := plcL_b xs hlti
   refine awp_skip ?_
   refine awp_seq ?_
   refine awp_block ?_
   refine awp_seq ?_
   refine r1 T0_ok hP hm hN ?_
   iterate 3 refine g1 ?_
   refine awp_seq ?_
   refine awp_seq ?_
   refine r1 T0_ok hP hm hN ?_
   iterate 4 refine g1 ?_
   refine awp_cond rfl (fun hc2 => ?_) (fun hc2 => ?_)
   ·
    have hbk : brkI (plcL xs) i = true := hc2
    have hle : (if brkI (plcL xs) i = true then cntF (brkI (plcL xs)) i + 1 else cntF (brkI (plcL xs)) i) = cntF (brkI (plcL xs)) i + 1 := by rw [hbk]; rfl
    refine r1 T0_ok hP hm hN ?_
    iterate 3 refine g1 ?_
    refine r1 T0_ok hP hm hN ?_
    iterate 2 refine g1 ?_
    refine r1 T0_ok hP hm hN ?_
    iterate 2 refine g1 ?_
    refine ⟨xs.length - (i + 1), _, by omega, (by rw [cntF, hle, lastP_suc]; exact weak_sl (sub_cons rfl (sub_cons rfl (sub_cons rfl (sub_cons rfl (sub_cons rfl (sub_cons rfl (sub_nil)))))))), i + 1, by omega, rfl, rfl⟩
   ·
    have hbk : brkI (plcL xs) i = false := hc2
    have hle : (if brkI (plcL xs) i = true then cntF (brkI (plcL xs)) i + 1 else cntF (brkI (plcL xs)) i) = cntF (brkI (plcL xs)) i := by rw [hbk]; rfl
    refine awp_skip ?_
    refine r1 T0_ok hP hm hN ?_
    iterate 2 refine g1 ?_
    refine r1 T0_ok hP hm hN ?_
    iterate 2 refine g1 ?_
    refine ⟨xs.length - (i + 1), _, by omega, (by rw [cntF, hle, lastP_suc]; exact weak_sl (sub_cons rfl (sub_cons rfl (sub_cons rfl (sub_cons rfl (sub_cons rfl (sub_cons rfl (sub_nil)))))))), i + 1, by omega, rfl, rfl⟩
  ·
   have hgei : ¬ i < xs.length := by simpa using hc1
   obtain rfl : i = xs.length := by omega
   rw [brk_eq hIv] at hr
   refine awp_exit ?_
   repeat refine thenA_exit ?_
   refine blockA_hit ?_
   refine awp_seq ?_
   refine r1 T0_ok hP hm hN ?_
   iterate 3 refine g1 ?_
   refine awp_ret ?_
   refine fin_mk [] rfl rfl ?_ trivial (by decide)
   show D.tup [.val (.int .i64 (brkR xs).1), .val (.int .i64 (brkR xs).2)] = _
   rw [hr]
   rfl
end Go.Proofs.YtpdkhlpmiblflaaGreat.Abs

