import Derived.Test.YthdgihkffcmkiaaS3
set_option linter.unusedVariables false
set_option linter.unusedSimpArgs false
namespace Go.Proofs.Ythdgihkffcmkiaa.Abs
open Go Go.RowKit
def ltB (c : Int → Int → Int) (x y : Int) : Bool := decide (c x y < 0) || (decide (c x y = 0) && decide (x < y))
theorem ltB_iff {c : Int → Int → Int} {x y : Int} : ltB c x y = true ↔ ltC c x y := by simp [ltB, ltC]
def cntF (p : Nat → Bool) : Nat → Int
  | 0 => 0
  | k + 1 => if p k then cntF p k + 1 else cntF p k
theorem cntF_b (p : Nat → Bool) : ∀ n, 0 ≤ cntF p n ∧ cntF p n ≤ n
  | 0 => by simp [cntF]
  | n + 1 => by
    have := cntF_b p n
    rw [cntF]
    split <;> omega
theorem cntF_congr {p q : Nat → Bool} : ∀ n, (∀ k, k < n → p k = q k) → cntF p n = cntF q n
  | 0, _ => rfl
  | n + 1, h => by rw [cntF, cntF, cntF_congr n (fun k hk => h k (by omega)), h n (by omega)]
theorem cntF_iota (q : Int → Bool) : ∀ n, cntF (fun k => q (k : Nat)) n = ((iotaL n).countP q : Nat)
  | 0 => rfl
  | n + 1 => by
    rw [cntF, iotaL_suc, List.countP_append, cntF_iota q n, List.countP_singleton]
    split <;> simp_all
theorem cntF_list (q : Int → Bool) (xs : List Int) : cntF (fun k => q (xs.getD k 0)) xs.length = (xs.countP q : Nat) := by
  have key : ∀ n, n ≤ xs.length → cntF (fun k => q (xs.getD k 0)) n = ((xs.take n).countP q : Nat) := by
    intro n
    induction n with
    | zero => intro _; rfl
    | succ n ih =>
      intro hn
      have hlt : n < xs.length := by omega
      rw [cntF, ih (by omega), List.take_add_one, List.countP_append, List.getElem?_eq_getElem hlt]
      simp only [Option.toList_some, List.countP_singleton]
      rw [show xs.getD n 0 = xs[n] by simp [List.getD, hlt]]
      split <;> simp_all
  have := key xs.length (Nat.le_refl _)
  rwa [List.take_length] at this
theorem cntF_perm {n : Nat} {sp : List Int} (hp : sp.Perm (iotaL n)) (q : Int → Bool) : cntF (fun k => q (k : Nat)) n = cntF (fun k => q (sp.getD k 0)) n := by
  have hl : sp.length = n := by rw [hp.length_eq, iotaL_len]
  rw [cntF_iota, ← hp.countP_eq q, ← cntF_list, hl]
structure InvP (n : Nat) (sp rk : List Int) : Prop where
  perm : sp.Perm (iotaL n)
  rkl : rk.length = n
  inv : ∀ r, r < n → rk.getD (sp.getD r 0).toNat 0 = r
section
variable {n : Nat} {sp rk : List Int} (h : InvP n sp rk)
include h
theorem InvP.spl : sp.length = n := by rw [h.perm.length_eq, iotaL_len]
theorem InvP.rng {r : Nat} (hr : r < n) : 0 ≤ sp.getD r 0 ∧ sp.getD r 0 < n := by
  refine iotaL_mem (h.perm.mem_iff.1 ?_)
  rw [List.getD, List.getElem?_eq_getElem (by rw [h.spl]; exact hr)]
  exact List.getElem_mem _
theorem InvP.sur {i : Nat} (hi : i < n) : ∃ r, r < n ∧ sp.getD r 0 = i ∧ rk.getD i 0 = r := by
  have hm : (i : Int) ∈ sp := h.perm.mem_iff.2 (by simp [iotaL]; exact ⟨i, hi, rfl⟩)
  obtain ⟨r, hr, he⟩ := List.getElem_of_mem hm
  rw [h.spl] at hr
  have e : sp.getD r 0 = i := by rw [List.getD, List.getElem?_eq_getElem (by rw [h.spl]; exact hr)]; exact he
  refine ⟨r, hr, e, ?_⟩
  have := h.inv r hr
  rwa [e, Int.toNat_natCast] at this
theorem InvP.inj {r s : Nat} (hr : r < n) (hs : s < n) (e : sp.getD r 0 = sp.getD s 0) : r = s := by
  have h1 := h.inv r hr
  have h2 := h.inv s hs
  rw [e] at h1
  omega
theorem InvP.rkr {i : Nat} (hi : i < n) : 0 ≤ rk.getD i 0 ∧ rk.getD i 0 < n := by
  obtain ⟨r, h1, _, h3⟩ := h.sur hi
  omega
theorem InvP.eq {i r : Nat} (hi : i < n) (hr : r < n) : rk.getD i 0 = r ↔ sp.getD r 0 = i := by
  obtain ⟨s, h1, h2, h3⟩ := h.sur hi
  constructor
  · intro e
    have : s = r := by omega
    subst this; exact h2
  · intro e
    have := h.inj hr h1 (e.trans h2.symm)
    omega
end
theorem inv_of {c : Int → Int → Int} (hc : OrdC c) {n : Nat} {rk : List Int} (hl : rk.length = n) (hr : ∀ i, i < n → rk.getD i 0 = cntF (fun k => ltB c (k : Nat) (i : Nat)) n) : InvP n (srt c 0 n (iotaL n)) rk := by
  obtain ⟨s1, s2⟩ := srt_ok hc (Nat.zero_le n) (by rw [iotaL_len]; exact Nat.le_refl _) (fun i j _ h2 h3 => by rw [iotaL_get (by omega), iotaL_get h3]; omega)
  generalize srt c 0 n (iotaL n) = sp at *
  have hsl : sp.length = n := by rw [s1.len, iotaL_len]
  refine ⟨s1.perm, hl, fun r hlt => ?_⟩
  have hm : 0 ≤ sp.getD r 0 ∧ sp.getD r 0 < n := by
    refine iotaL_mem (s1.perm.mem_iff.1 ?_)
    rw [List.getD, List.getElem?_eq_getElem (by omega)]
    exact List.getElem_mem _
  rw [hr _ (by omega), show (((sp.getD r 0).toNat : Nat) : Int) = sp.getD r 0 by omega]
  rw [cntF_perm s1.perm (fun v => ltB c v (sp.getD r 0))]
  have e : ∀ k, k < n → ltB c (sp.getD k 0) (sp.getD r 0) = decide (k < r) := fun k hk => by
    rw [Bool.eq_iff_iff, ltB_iff, decide_eq_true_eq]
    constructor
    · intro h1
      rcases Nat.lt_trichotomy k r with h2 | h2 | h2
      · exact h2
      · subst h2; exact (ltC_irrefl hc h1).elim
      · exact (ltC_asymm hc h1 (s2 r k (Nat.zero_le _) h2 hk)).elim
    · intro h1; exact s2 k r (Nat.zero_le _) h1 hlt
  rw [cntF_congr n e]
  have : ∀ m, cntF (fun k => decide (k < r)) m = (min m r : Nat) := by
    intro m
    induction m with
    | zero => simp [cntF]
    | succ m ih =>
      rw [cntF, ih]
      split
      · rename_i h1; simp at h1; omega
      · rename_i h1; simp at h1; omega
  rw [this]; omega
/-! ### Breaks -/
def lastP (sp : List Int) (r : Nat) : Int := if r = 0 then -1 else sp.getD (r - 1) 0
/-! ### Passes -/
def psP (sp : List Int) : Nat → Int
  | 0 => 1
  | r + 1 => if sp.getD r 0 < lastP sp r then psP sp r + 1 else psP sp r
def psL (n : Nat) (sp : List Int) : Nat → List Int
  | 0 => List.replicate n 0
  | r + 1 => (psL n sp r).set (sp.getD r 0).toNat (psP sp (r + 1))
theorem psL_len (n : Nat) (sp : List Int) : ∀ r, (psL n sp r).length = n
  | 0 => by simp [psL]
  | r + 1 => by rw [psL, List.length_set, psL_len n sp r]
theorem psP_b (sp : List Int) : ∀ r, 1 ≤ psP sp r ∧ psP sp r ≤ r + 1
  | 0 => by simp [psP]
  | r + 1 => by
    have := psP_b sp r
    rw [psP]
    split <;> omega
theorem psL_pos {n : Nat} {sp rk : List Int} (h : InvP n sp rk) : ∀ r, r ≤ n → ∀ s, s < r → 1 ≤ (psL n sp r).getD (sp.getD s 0).toNat 0
  | 0, _, s, hs => by omega
  | r + 1, hr, s, hs => by
    have h1 := psP_b sp (r + 1)
    have hg := h.rng (show r < n by omega)
    rw [psL, set_getD (by rw [psL_len]; omega)]
    split
    · omega
    · rename_i hne
      have : s ≠ r := fun e => hne (by rw [e])
      exact psL_pos h r (by omega) s (by omega)
theorem psL_all {n : Nat} {sp rk : List Int} (h : InvP n sp rk) {i : Nat} (hi : i < n) : 1 ≤ (psL n sp n).getD i 0 := by
  obtain ⟨r, h1, h2, _⟩ := h.sur hi
  have := psL_pos h n (Nat.le_refl _) r h1
  rwa [h2, Int.toNat_natCast] at this
def InPass (n : Nat) (sp : List Int) (r i : Nat) (p : Int) : Prop := r < n → ((i : Int) ≤ sp.getD r 0 ∧ p = psP sp (r + 1)) ∨ (sp.getD r 0 < i ∧ p + 1 = psP sp (r + 1))
theorem inPass_0 {n : Nat} {sp rk : List Int} (h : InvP n sp rk) : InPass n sp 0 0 1 := fun hn => by
  have := h.rng hn
  left
  refine ⟨by omega, ?_⟩
  rw [psP, lastP, if_pos rfl, if_neg (by omega)]; rfl
theorem inPass_hit {n : Nat} {sp rk : List Int} (h : InvP n sp rk) {r i : Nat} {p : Int} (hr : r < n) (hi : i < n) (hP : InPass n sp r i p) (hk : rk.getD i 0 = r) : p = psP sp (r + 1) ∧ sp.getD r 0 = i ∧ InPass n sp (r + 1) (i + 1) p := by
  have e := (h.eq hi hr).1 hk
  have e1 : p = psP sp (r + 1) := by
    rcases hP hr with h1 | h1
    · exact h1.2
    · omega
  refine ⟨e1, e, fun h2 => ?_⟩
  have hne : sp.getD (r + 1) 0 ≠ i := fun e2 => by have := h.inj h2 hr (e2.trans e.symm); omega
  have el : lastP sp (r + 1) = i := by rw [lastP, if_neg (by omega)]; exact e
  have eq : psP sp (r + 1 + 1) = if sp.getD (r + 1) 0 < lastP sp (r + 1) then psP sp (r + 1) + 1 else psP sp (r + 1) := rfl
  rw [eq, el]
  by_cases e3 : sp.getD (r + 1) 0 < i
  · right; rw [if_pos e3]; omega
  · left; rw [if_neg e3]; omega
theorem inPass_miss {n : Nat} {sp rk : List Int} (h : InvP n sp rk) {r i : Nat} {p : Int} (hi : i < n) (hP : InPass n sp r i p) (hk : ¬ rk.getD i 0 = r) : InPass n sp r (i + 1) p := fun hr => by
  have hne : sp.getD r 0 ≠ i := fun e => hk ((h.eq hi hr).2 e)
  rcases hP hr with h1 | h1
  · left; omega
  · right; omega
theorem inPass_next {n : Nat} {sp rk : List Int} (h : InvP n sp rk) {r : Nat} {p : Int} (hP : InPass n sp r n p) : InPass n sp r 0 (p + 1) := fun hr => by
  have := h.rng hr
  rcases hP hr with h1 | h1
  · omega
  · left; omega
/-! ### Swaps -/
def posI (xs : List Int) (x : Int) : Nat := xs.findIdx (fun v => v == x)
theorem posI_lt {xs : List Int} {x : Int} (h : x ∈ xs) : posI xs x < xs.length := List.findIdx_lt_length.2 ⟨x, h, by simp⟩
theorem posI_get {xs : List Int} {x : Int} (h : x ∈ xs) : xs.getD (posI xs x) 0 = x := by
  have h1 := posI_lt h
  have := List.findIdx_getElem (p := fun v => v == x) (w := h1)
  rw [List.getD, List.getElem?_eq_getElem h1]
  exact eq_of_beq this
def swS (n : Nat) (sp : List Int) : Nat → List Int × List (Int × Int)
  | 0 => (iotaL n, [])
  | i + 1 => if i = posI (swS n sp i).1 (sp.getD i 0) then swS n sp i else (swp (swS n sp i).1 i (posI (swS n sp i).1 (sp.getD i 0)), (swS n sp i).2 ++ [((i : Int), (posI (swS n sp i).1 (sp.getD i 0) : Int))])
structure SwOk (n : Nat) (sp : List Int) (i : Nat) (s : List Int × List (Int × Int)) : Prop where
  perm : s.1.Perm (iotaL n)
  fix : ∀ p, p < i → s.1.getD p 0 = sp.getD p 0
  len : s.2.length ≤ i
theorem perm_inj {n : Nat} {xs : List Int} (hp : xs.Perm (iotaL n)) {i j : Nat} (hi : i < n) (hj : j < n) (e : xs.getD i 0 = xs.getD j 0) : i = j := by
  have hl : xs.length = n := by rw [hp.length_eq, iotaL_len]
  have hnd : xs.Nodup := hp.nodup_iff.2 (by
    rw [List.Nodup, List.pairwise_iff_getElem]
    intro a b ha hb hab
    simp [iotaL]; omega)
  have h1 : xs[i]'(by omega) = xs[j]'(by omega) := by
    simpa [List.getD, hl, hi, hj] using e
  have hpw := List.pairwise_iff_getElem.1 hnd
  rcases Nat.lt_trichotomy i j with h2 | h2 | h2
  · exact absurd h1 (hpw i j (by omega) (by omega) h2)
  · exact h2
  · exact absurd h1.symm (hpw j i (by omega) (by omega) h2)
theorem perm_rng {n : Nat} {xs : List Int} (hp : xs.Perm (iotaL n)) {i : Nat} (hi : i < n) : 0 ≤ xs.getD i 0 ∧ xs.getD i 0 < n := by
  have hl : xs.length = n := by rw [hp.length_eq, iotaL_len]
  refine iotaL_mem (hp.mem_iff.1 ?_)
  rw [List.getD, List.getElem?_eq_getElem (by omega)]
  exact List.getElem_mem _
theorem sw_pos {n : Nat} {sp rk : List Int} (h : InvP n sp rk) {i : Nat} {s : List Int × List (Int × Int)} (hs : SwOk n sp i s) (hi : i < n) : posI s.1 (sp.getD i 0) < n ∧ i ≤ posI s.1 (sp.getD i 0) ∧ s.1.getD (posI s.1 (sp.getD i 0)) 0 = sp.getD i 0 := by
  have hl : s.1.length = n := by rw [hs.perm.length_eq, iotaL_len]
  have hm : sp.getD i 0 ∈ s.1 := hs.perm.mem_iff.2 (h.perm.mem_iff.1 (by
    rw [List.getD, List.getElem?_eq_getElem (by rw [h.spl]; exact hi)]
    exact List.getElem_mem _))
  have h1 := posI_lt hm
  have h2 := posI_get hm
  rw [hl] at h1
  refine ⟨h1, ?_, h2⟩
  rcases Nat.lt_or_ge (posI s.1 (sp.getD i 0)) i with h3 | h3
  · have h4 := hs.fix _ h3
    rw [h2] at h4
    have := h.inj hi (by omega) h4
    omega
  · exact h3
theorem sw_ok {n : Nat} {sp rk : List Int} (h : InvP n sp rk) : ∀ i, i ≤ n → SwOk n sp i (swS n sp i)
  | 0, _ => ⟨.refl _, fun p hp => by omega, by simp [swS]⟩
  | i + 1, hi => by
    have ih := sw_ok h i (by omega)
    obtain ⟨h1, h2, h3⟩ := sw_pos h ih (by omega)
    have hl : (swS n sp i).1.length = n := by rw [ih.perm.length_eq, iotaL_len]
    rw [swS]
    split
    · rename_i e
      refine ⟨ih.perm, fun p hp => ?_, by have := ih.len; omega⟩
      by_cases e2 : p = i
      · rw [e2]; rw [← e] at h3; exact h3
      · exact ih.fix p (by omega)
    · refine ⟨(swp_perm (by omega) (by omega)).trans ih.perm, fun p hp => ?_, by have := ih.len; simp; omega⟩
      simp only
      rw [swp_get (by omega) (by omega)]
      rename_i e
      by_cases e2 : p = i
      · rw [if_neg (by omega), if_pos e2, h3, e2]
      · rw [if_neg (by omega), if_neg e2]; exact ih.fix p (by omega)
def rkN (rk now : List Int) : List Int := now.map fun v => rk.getD v.toNat 0
theorem rkN_len (rk now : List Int) : (rkN rk now).length = now.length := by simp [rkN]
theorem rkN_get {rk now : List Int} {i : Nat} (h : i < now.length) : (rkN rk now).getD i 0 = rk.getD (now.getD i 0).toNat 0 := by simp [rkN, List.getD, h]
theorem rkN_0 {rk : List Int} {n : Nat} (h : rk.length = n) : rkN rk (iotaL n) = rk := ext_getD (by rw [rkN_len, iotaL_len, h]) (fun j hj => by
  rw [rkN_len, iotaL_len] at hj
  rw [rkN_get (by rw [iotaL_len]; exact hj), iotaL_get hj, Int.toNat_natCast])
theorem rkN_hit {n : Nat} {sp rk : List Int} (h : InvP n sp rk) {i : Nat} {s : List Int × List (Int × Int)} (hs : SwOk n sp i s) (hi : i < n) {k : Nat} (hk : k < n) : (rkN rk s.1).getD k 0 = i ↔ k = posI s.1 (sp.getD i 0) := by
  obtain ⟨h1, h2, h3⟩ := sw_pos h hs hi
  have hl : s.1.length = n := by rw [hs.perm.length_eq, iotaL_len]
  rw [rkN_get (by omega)]
  have hg := perm_rng hs.perm hk
  obtain ⟨v, hv⟩ : ∃ v : Nat, s.1.getD k 0 = v := ⟨(s.1.getD k 0).toNat, by omega⟩
  rw [hv, Int.toNat_natCast, h.eq (by omega) hi]
  constructor
  · intro e
    exact perm_inj hs.perm hk h1 (by rw [h3, e, hv])
  · rintro rfl
    rw [← hv, h3]
theorem rkN_swp {n : Nat} {sp rk : List Int} (h : InvP n sp rk) {i : Nat} {s : List Int × List (Int × Int)} (hs : SwOk n sp i s) (hi : i < n) (hne : i ≠ posI s.1 (sp.getD i 0)) : rkN rk (swp s.1 i (posI s.1 (sp.getD i 0))) = ((rkN rk s.1).set (posI s.1 (sp.getD i 0)) ((rkN rk s.1).getD i 0)).set i i := by
  obtain ⟨h1, h2, h3⟩ := sw_pos h hs hi
  have hl : s.1.length = n := by rw [hs.perm.length_eq, iotaL_len]
  have hh := (rkN_hit h hs hi h1).2 rfl
  generalize hj : posI s.1 (sp.getD i 0) = j at *
  refine ext_getD (by simp [rkN_len, swp_len]) (fun p hp => ?_)
  rw [rkN_len, swp_len, hl] at hp
  rw [rkN_get (by rw [swp_len]; omega), swp_get (by omega) (by omega), set_getD (by simp [rkN_len, hl]; omega), set_getD (by simp [rkN_len, hl]; omega)]
  rw [rkN_get (by omega)] at hh
  by_cases e1 : p = j
  · rw [if_pos e1, if_neg (by omega), if_pos e1, rkN_get (by omega)]
  · rw [if_neg e1]
    by_cases e2 : p = i
    · rw [if_pos e2, if_pos e2, hh]
    · rw [if_neg e2, if_neg e2, if_neg e1, rkN_get (by omega)]

def rkB (bs : List Bk) (i k : Nat) : Bool := ltB (cP bs) (k : Nat) (i : Nat)
def rkR (bs : List Bk) : Nat → List Int
  | 0 => []
  | i + 1 => rkR bs i ++ [cntF (rkB bs i) bs.length]
theorem rkR_len (bs : List Bk) : ∀ i, (rkR bs i).length = i
  | 0 => rfl
  | i + 1 => by rw [rkR, List.length_append, rkR_len bs i]; rfl
theorem rkR_get (bs : List Bk) : ∀ i j, j < i → (rkR bs i).getD j 0 = cntF (rkB bs j) bs.length
  | 0, j, h => by omega
  | i + 1, j, h => by
    have hl := rkR_len bs i
    rw [rkR]
    by_cases e : j < i
    · rw [← rkR_get bs i j e, List.getD, List.getElem?_append_left (by omega)]; rfl
    · have : j = i := by omega
      subst this
      rw [List.getD, List.getElem?_append_right (by omega), hl, Nat.sub_self]; rfl
abbrev rkL (bs : List Bk) : List Int := rkR bs bs.length
theorem inv_rk (bs : List Bk) : InvP bs.length (plcL bs) (rkL bs) := inv_of (ord_cP bs) (rkR_len bs _) (fun i hi => rkR_get bs _ i hi)
theorem plcL_b (bs : List Bk) {r : Nat} (h : r < bs.length) : 0 ≤ (plcL bs).getD r 0 ∧ (plcL bs).getD r 0 < bs.length := (inv_rk bs).rng h
theorem lastP_b {n : Nat} {sp rk : List Int} (h : InvP n sp rk) {r : Nat} (hr : r ≤ n) : -1 ≤ lastP sp r ∧ lastP sp r ≤ n := by
  unfold lastP
  split
  · omega
  · have := h.rng (show r - 1 < n by omega)
    omega
theorem lastP_suc (sp : List Int) (r : Nat) : lastP sp (r + 1) = sp.getD r 0 := by rw [lastP, if_neg (by omega)]; rfl
theorem areg_notU {m : Nat} {ops l : List Oper} {st st' : St} {K : St → Prop} {dst : Option Tmp} {op : Op} {ty : TypeId} {pos : String} {af : Array Edge} {j : Nat} {want : Bool} (hg : guardD ops j st.sl = none) (hu : guardU ops j st.sl = true) (hst : St.mk (putSl dst (.val undef) st.sl) st.hp st.nx = st') (hK : areg Pr T0 m ops l st' K) : areg Pr T0 m ops ({ dst := dst, op := op, type := ty, pos := pos, after := af, guard := some (j, want) } :: l) st K := by
  simp only [areg, hg]
  exact ⟨hu, by rw [hst]; exact hK⟩
theorem valid60 {xs : List Bk} (h : (!validBs xs) = false) : xs.length ≤ 60 := by
  simp only [Bool.not_eq_false', validBs, Bool.and_eq_true, decide_eq_true_eq] at h
  omega
noncomputable abbrev s_S_l03Ranks : Spec (List Bk) where
  args := fun xs => [.sl 8 (bks xs)]
  pre := fun xs => (∀ b ∈ xs, isBk b) ∧ xs.length ≤ 1048576
  new := fun xs => [⟨2, 1, false, i64s (rkL xs)⟩]
  res := fun xs => .own 0

set_option maxRecDepth 20000 in
set_option maxHeartbeats 8000000 in
theorem ok_S_l03Ranks : FnOk Pr 43 s_S_l03Ranks := by
  refine fn_ok 1 0 T0_ok Go.Proofs.Try.func43 rfl (enters_of Go.Proofs.Try.func43 rfl rfl) (fun _ => rfl) (fun _ => rfl) (fun _ => rfl) ?_
  rintro xs ⟨hv, hl⟩ C hP hN hm hG
  change awp C _ _ ⟨[(0, .sl 8 (bks xs))], [], 0⟩
  refine awp_seq ?_
  refine r1 T0_ok hP hm hN ?_
  refine g1 ?_
  refine awp_seq ?_
  refine r1 T0_ok hP hm hN ?_
  refine g1 ?_
  refine g1 ?_
  refine awp_seq ?_
  refine awp_seq ?_
  refine r1 T0_ok hP hm hN ?_
  refine g1 ?_
  refine awp_block ?_
  refine awp_loop (fun n st => ∃ i : Nat, i ≤ xs.length ∧ n = xs.length - i ∧ st = ⟨[(4, .val (.int .i64 ((i : Nat) : Int))), (3, .own 0), (0, .sl 8 (bks xs))], [(0, ⟨2, 1, false, i64s (rkR xs i)⟩)], 1⟩) (xs.length) ⟨_, weak_sl (sub_cons rfl (sub_cons rfl (sub_cons rfl (sub_nil)))), 0, by omega, rfl, rfl⟩ ?_
  rintro n st ⟨i, hii, hni, rfl⟩
  have hrl := rkR_len xs i
  refine awp_seq ?_
  refine awp_seq ?_
  refine r1 T0_ok hP hm hN ?_
  refine g1 ?_
  refine g1 ?_
  refine g1 ?_
  refine g1 ?_
  refine awp_cond rfl (fun hc0 => ?_) (fun hc0 => ?_)
  · skip
    have hlti : i < xs.length := by simpa using hc0
    refine awp_skip ?_
    refine awp_seq ?_
    refine awp_block ?_
    refine awp_seq ?_
    refine r1 T0_ok hP hm hN ?_
    refine g1 ?_
    refine awp_seq ?_
    refine awp_seq ?_
    refine r1 T0_ok hP hm hN ?_
    refine g1 ?_
    refine awp_block ?_
    refine awp_loop (fun n st => ∃ k : Nat, k ≤ xs.length ∧ n = xs.length - k ∧ st = ⟨[(6, .val (.int .i64 ((k : Nat) : Int))), (5, .val (.int .i64 (cntF (rkB xs i) k))), (4, .val (.int .i64 ((i : Nat) : Int))), (3, .own 0), (0, .sl 8 (bks xs))], [(0, ⟨2, 1, false, i64s (rkR xs i)⟩)], 1⟩) (xs.length) ⟨_, weak_sl (sub_cons rfl (sub_cons rfl (sub_cons rfl (sub_cons rfl (sub_cons rfl (sub_nil)))))), 0, by omega, rfl, rfl⟩ ?_
    rintro n st ⟨k, hik, hnk, rfl⟩
    have hcb := cntF_b (rkB xs i) k
    refine awp_seq ?_
    refine awp_seq ?_
    refine r1 T0_ok hP hm hN ?_
    refine g1 ?_
    refine g1 ?_
    refine g1 ?_
    refine g1 ?_
    refine awp_cond rfl (fun h18 => ?_) (fun h18 => ?_)
    · skip
      have hltk : k < xs.length := by simpa using h18
      refine awp_skip ?_
      refine awp_seq ?_
      refine awp_block ?_
      refine awp_seq ?_
      refine awp_draw T0_ok hP hm hN Pr_mix [0, 1, 2, 3, 4, 5, 6, 7, 8, 9, 10, 11] [6] _ rfl (by rfl) ?_
      refine d1 T0_ok ?_
      refine d1 T0_ok ?_
      refine d1 T0_ok ?_
      refine d1 T0_ok ?_
      refine d1 T0_ok ?_
      refine d1 T0_ok ?_
      refine dp1 ?_ (call1 ok_S_l01Usual ((_, _, _, 0, xs.getD k bk0), (_, _, _, 0, xs.getD i bk0), false) [] (hpre := by (try dsimp only); exact ⟨⟨bks_get _ _ (by omega), hv _ (getD_mem' (by omega))⟩, ⟨bks_get _ _ (by omega), hv _ (getD_mem' (by omega))⟩⟩))
      refine d1 T0_ok ?_
      refine dreg_nil ?_
      refine awp_seq ?_
      refine r1 T0_ok hP hm hN ?_
      refine g1 ?_
      refine g1 ?_
      refine g1 ?_
      cases hs0 : decide (cmpU (xs.getD k bk0) (xs.getD i bk0) < 0)
      · skip
        refine gy1 ?_
        refine gy1 ?_
        refine gy1 ?_
        cases hs1 : (cmpU (xs.getD k bk0) (xs.getD i bk0) == 0)
        · skip
          first | refine areg_not rfl rfl (by simp +decide (disch := omega) only [nrm, lk_nrm, dc_nrm, mk_nrm, mf_nrm, ti_nrm, ls_nrm, mp_nrm, nb_nrm, hset, pick_and, pick_or, ↓reduceIte, Nat.reduceAdd, wI64, wI32, wI16, wI8, wU8, List.length_map, Int.toNat_natCast]; rfl) ?_ | refine areg_notU rfl rfl (by simp +decide (disch := omega) only [nrm, lk_nrm, dc_nrm, mk_nrm, mf_nrm, ti_nrm, ls_nrm, mp_nrm, nb_nrm, hset, pick_and, pick_or, ↓reduceIte, Nat.reduceAdd, wI64, wI32, wI16, wI8, wU8, List.length_map, Int.toNat_natCast]; rfl) ?_
          first | refine areg_not rfl rfl (by simp +decide (disch := omega) only [nrm, lk_nrm, dc_nrm, mk_nrm, mf_nrm, ti_nrm, ls_nrm, mp_nrm, nb_nrm, hset, pick_and, pick_or, ↓reduceIte, Nat.reduceAdd, wI64, wI32, wI16, wI8, wU8, List.length_map, Int.toNat_natCast]; rfl) ?_ | refine areg_notU rfl rfl (by simp +decide (disch := omega) only [nrm, lk_nrm, dc_nrm, mk_nrm, mf_nrm, ti_nrm, ls_nrm, mp_nrm, nb_nrm, hset, pick_and, pick_or, ↓reduceIte, Nat.reduceAdd, wI64, wI32, wI16, wI8, wU8, List.length_map, Int.toNat_natCast]; rfl) ?_
          first | refine areg_not rfl rfl (by simp +decide (disch := omega) only [nrm, lk_nrm, dc_nrm, mk_nrm, mf_nrm, ti_nrm, ls_nrm, mp_nrm, nb_nrm, hset, pick_and, pick_or, ↓reduceIte, Nat.reduceAdd, wI64, wI32, wI16, wI8, wU8, List.length_map, Int.toNat_natCast]; rfl) ?_ | refine areg_notU rfl rfl (by simp +decide (disch := omega) only [nrm, lk_nrm, dc_nrm, mk_nrm, mf_nrm, ti_nrm, ls_nrm, mp_nrm, nb_nrm, hset, pick_and, pick_or, ↓reduceIte, Nat.reduceAdd, wI64, wI32, wI16, wI8, wU8, List.length_map, Int.toNat_natCast]; rfl) ?_
          refine gy1 ?_
          refine g1 ?_
          refine awp_cond rfl (fun h38 => ?_) (fun h38 => ?_)
          · skip
            have hb : rkB xs i k = true := by simp only [rkB, ltB, cP, Int.toNat_natCast]; simp_all
            have hle : (if rkB xs i k = true then cntF (rkB xs i) k + 1 else cntF (rkB xs i) k) = cntF (rkB xs i) k + 1 := by rw [hb]; rfl
            refine r1 T0_ok hP hm hN ?_
            refine g1 ?_
            refine g1 ?_
            refine g1 ?_
            refine r1 T0_ok hP hm hN ?_
            refine g1 ?_
            refine g1 ?_
            refine g1 ?_
            refine ⟨xs.length - (k + 1), _, by omega, (by rw [cntF, hle]; exact weak_sl (sub_cons rfl (sub_cons rfl (sub_cons rfl (sub_cons rfl (sub_cons rfl (sub_nil))))))), k + 1, by omega, rfl, rfl⟩
          · skip
            have hb : rkB xs i k = false := by simp only [rkB, ltB, cP, Int.toNat_natCast]; simp_all
            have hle : (if rkB xs i k = true then cntF (rkB xs i) k + 1 else cntF (rkB xs i) k) = cntF (rkB xs i) k := by rw [hb]; rfl
            refine awp_skip ?_
            refine r1 T0_ok hP hm hN ?_
            refine g1 ?_
            refine g1 ?_
            refine g1 ?_
            refine ⟨xs.length - (k + 1), _, by omega, (by rw [cntF, hle]; exact weak_sl (sub_cons rfl (sub_cons rfl (sub_cons rfl (sub_cons rfl (sub_cons rfl (sub_nil))))))), k + 1, by omega, rfl, rfl⟩
        · skip
          refine gy1 ?_
          refine gy1 ?_
          refine gy1 ?_
          refine gy1 ?_
          refine g1 ?_
          refine awp_cond rfl (fun h38 => ?_) (fun h38 => ?_)
          · skip
            have hb : rkB xs i k = true := by simp only [rkB, ltB, cP, Int.toNat_natCast]; simp_all
            have hle : (if rkB xs i k = true then cntF (rkB xs i) k + 1 else cntF (rkB xs i) k) = cntF (rkB xs i) k + 1 := by rw [hb]; rfl
            refine r1 T0_ok hP hm hN ?_
            refine g1 ?_
            refine g1 ?_
            refine g1 ?_
            refine r1 T0_ok hP hm hN ?_
            refine g1 ?_
            refine g1 ?_
            refine g1 ?_
            refine ⟨xs.length - (k + 1), _, by omega, (by rw [cntF, hle]; exact weak_sl (sub_cons rfl (sub_cons rfl (sub_cons rfl (sub_cons rfl (sub_cons rfl (sub_nil))))))), k + 1, by omega, rfl, rfl⟩
          · skip
            have hb : rkB xs i k = false := by simp only [rkB, ltB, cP, Int.toNat_natCast]; simp_all
            have hle : (if rkB xs i k = true then cntF (rkB xs i) k + 1 else cntF (rkB xs i) k) = cntF (rkB xs i) k := by rw [hb]; rfl
            refine awp_skip ?_
            refine r1 T0_ok hP hm hN ?_
            refine g1 ?_
            refine g1 ?_
            refine g1 ?_
            refine ⟨xs.length - (k + 1), _, by omega, (by rw [cntF, hle]; exact weak_sl (sub_cons rfl (sub_cons rfl (sub_cons rfl (sub_cons rfl (sub_cons rfl (sub_nil))))))), k + 1, by omega, rfl, rfl⟩
      · skip
        first | refine areg_not rfl rfl (by simp +decide (disch := omega) only [nrm, lk_nrm, dc_nrm, mk_nrm, mf_nrm, ti_nrm, ls_nrm, mp_nrm, nb_nrm, hset, pick_and, pick_or, ↓reduceIte, Nat.reduceAdd, wI64, wI32, wI16, wI8, wU8, List.length_map, Int.toNat_natCast]; rfl) ?_ | refine areg_notU rfl rfl (by simp +decide (disch := omega) only [nrm, lk_nrm, dc_nrm, mk_nrm, mf_nrm, ti_nrm, ls_nrm, mp_nrm, nb_nrm, hset, pick_and, pick_or, ↓reduceIte, Nat.reduceAdd, wI64, wI32, wI16, wI8, wU8, List.length_map, Int.toNat_natCast]; rfl) ?_
        first | refine areg_not rfl rfl (by simp +decide (disch := omega) only [nrm, lk_nrm, dc_nrm, mk_nrm, mf_nrm, ti_nrm, ls_nrm, mp_nrm, nb_nrm, hset, pick_and, pick_or, ↓reduceIte, Nat.reduceAdd, wI64, wI32, wI16, wI8, wU8, List.length_map, Int.toNat_natCast]; rfl) ?_ | refine areg_notU rfl rfl (by simp +decide (disch := omega) only [nrm, lk_nrm, dc_nrm, mk_nrm, mf_nrm, ti_nrm, ls_nrm, mp_nrm, nb_nrm, hset, pick_and, pick_or, ↓reduceIte, Nat.reduceAdd, wI64, wI32, wI16, wI8, wU8, List.length_map, Int.toNat_natCast]; rfl) ?_
        first | refine areg_not rfl rfl (by simp +decide (disch := omega) only [nrm, lk_nrm, dc_nrm, mk_nrm, mf_nrm, ti_nrm, ls_nrm, mp_nrm, nb_nrm, hset, pick_and, pick_or, ↓reduceIte, Nat.reduceAdd, wI64, wI32, wI16, wI8, wU8, List.length_map, Int.toNat_natCast]; rfl) ?_ | refine areg_notU rfl rfl (by simp +decide (disch := omega) only [nrm, lk_nrm, dc_nrm, mk_nrm, mf_nrm, ti_nrm, ls_nrm, mp_nrm, nb_nrm, hset, pick_and, pick_or, ↓reduceIte, Nat.reduceAdd, wI64, wI32, wI16, wI8, wU8, List.length_map, Int.toNat_natCast]; rfl) ?_
        first | refine areg_not rfl rfl (by simp +decide (disch := omega) only [nrm, lk_nrm, dc_nrm, mk_nrm, mf_nrm, ti_nrm, ls_nrm, mp_nrm, nb_nrm, hset, pick_and, pick_or, ↓reduceIte, Nat.reduceAdd, wI64, wI32, wI16, wI8, wU8, List.length_map, Int.toNat_natCast]; rfl) ?_ | refine areg_notU rfl rfl (by simp +decide (disch := omega) only [nrm, lk_nrm, dc_nrm, mk_nrm, mf_nrm, ti_nrm, ls_nrm, mp_nrm, nb_nrm, hset, pick_and, pick_or, ↓reduceIte, Nat.reduceAdd, wI64, wI32, wI16, wI8, wU8, List.length_map, Int.toNat_natCast]; rfl) ?_
        first | refine areg_not rfl rfl (by simp +decide (disch := omega) only [nrm, lk_nrm, dc_nrm, mk_nrm, mf_nrm, ti_nrm, ls_nrm, mp_nrm, nb_nrm, hset, pick_and, pick_or, ↓reduceIte, Nat.reduceAdd, wI64, wI32, wI16, wI8, wU8, List.length_map, Int.toNat_natCast]; rfl) ?_ | refine areg_notU rfl rfl (by simp +decide (disch := omega) only [nrm, lk_nrm, dc_nrm, mk_nrm, mf_nrm, ti_nrm, ls_nrm, mp_nrm, nb_nrm, hset, pick_and, pick_or, ↓reduceIte, Nat.reduceAdd, wI64, wI32, wI16, wI8, wU8, List.length_map, Int.toNat_natCast]; rfl) ?_
        first | refine areg_not rfl rfl (by simp +decide (disch := omega) only [nrm, lk_nrm, dc_nrm, mk_nrm, mf_nrm, ti_nrm, ls_nrm, mp_nrm, nb_nrm, hset, pick_and, pick_or, ↓reduceIte, Nat.reduceAdd, wI64, wI32, wI16, wI8, wU8, List.length_map, Int.toNat_natCast]; rfl) ?_ | refine areg_notU rfl rfl (by simp +decide (disch := omega) only [nrm, lk_nrm, dc_nrm, mk_nrm, mf_nrm, ti_nrm, ls_nrm, mp_nrm, nb_nrm, hset, pick_and, pick_or, ↓reduceIte, Nat.reduceAdd, wI64, wI32, wI16, wI8, wU8, List.length_map, Int.toNat_natCast]; rfl) ?_
        first | refine areg_not rfl rfl (by simp +decide (disch := omega) only [nrm, lk_nrm, dc_nrm, mk_nrm, mf_nrm, ti_nrm, ls_nrm, mp_nrm, nb_nrm, hset, pick_and, pick_or, ↓reduceIte, Nat.reduceAdd, wI64, wI32, wI16, wI8, wU8, List.length_map, Int.toNat_natCast]; rfl) ?_ | refine areg_notU rfl rfl (by simp +decide (disch := omega) only [nrm, lk_nrm, dc_nrm, mk_nrm, mf_nrm, ti_nrm, ls_nrm, mp_nrm, nb_nrm, hset, pick_and, pick_or, ↓reduceIte, Nat.reduceAdd, wI64, wI32, wI16, wI8, wU8, List.length_map, Int.toNat_natCast]; rfl) ?_
        refine g1 ?_
        refine awp_cond rfl (fun h38 => ?_) (fun h38 => ?_)
        · skip
          have hb : rkB xs i k = true := by simp only [rkB, ltB, cP, Int.toNat_natCast]; simp_all
          have hle : (if rkB xs i k = true then cntF (rkB xs i) k + 1 else cntF (rkB xs i) k) = cntF (rkB xs i) k + 1 := by rw [hb]; rfl
          refine r1 T0_ok hP hm hN ?_
          refine g1 ?_
          refine g1 ?_
          refine g1 ?_
          refine r1 T0_ok hP hm hN ?_
          refine g1 ?_
          refine g1 ?_
          refine g1 ?_
          refine ⟨xs.length - (k + 1), _, by omega, (by rw [cntF, hle]; exact weak_sl (sub_cons rfl (sub_cons rfl (sub_cons rfl (sub_cons rfl (sub_cons rfl (sub_nil))))))), k + 1, by omega, rfl, rfl⟩
        · skip
          have hb : rkB xs i k = false := by simp only [rkB, ltB, cP, Int.toNat_natCast]; simp_all
          have hle : (if rkB xs i k = true then cntF (rkB xs i) k + 1 else cntF (rkB xs i) k) = cntF (rkB xs i) k := by rw [hb]; rfl
          refine awp_skip ?_
          refine r1 T0_ok hP hm hN ?_
          refine g1 ?_
          refine g1 ?_
          refine g1 ?_
          refine ⟨xs.length - (k + 1), _, by omega, (by rw [cntF, hle]; exact weak_sl (sub_cons rfl (sub_cons rfl (sub_cons rfl (sub_cons rfl (sub_cons rfl (sub_nil))))))), k + 1, by omega, rfl, rfl⟩
    · skip
      have hgek : ¬ k < xs.length := by simpa using h18
      obtain rfl : k = xs.length := by omega
      refine awp_exit ?_
      repeat refine thenA_exit ?_
      refine blockA_hit ?_
      refine r1 T0_ok hP hm hN ?_
      refine g1 ?_
      refine g1 ?_
      refine g1 ?_
      refine ga1 ?_
      refine g1 ?_
      refine r1 T0_ok hP hm hN ?_
      refine g1 ?_
      refine g1 ?_
      refine g1 ?_
      refine ⟨xs.length - (i + 1), _, by omega, (by rw [rkR, i64s_app2]; exact Weak.trans (weak_drop 1) (Weak.trans (weak_nx (nx' := 1) (by omega) (by rfl)) (weak_sl (sub_cons rfl (sub_cons rfl (sub_cons rfl (sub_nil))))))), i + 1, by omega, rfl, rfl⟩
  · skip
    have hgei : ¬ i < xs.length := by simpa using hc0
    have heqi : i = xs.length := by omega
    rw [heqi]
    refine awp_exit ?_
    repeat refine thenA_exit ?_
    refine blockA_hit ?_
    refine awp_seq ?_
    refine r1 T0_ok hP hm hN ?_
    refine g1 ?_
    refine g1 ?_
    refine awp_ret ?_
    refine fin_mk [0] rfl rfl ?_ (objs_cons rfl rfl rfl rfl rfl (.inl rfl) objs_nil) (by decide)
    rfl



end Go.Proofs.Ythdgihkffcmkiaa.Abs

