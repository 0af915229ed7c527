import Derived.Test.YtpdkhlpmiblflaaGreatX3i
import Derived.Test.YtpdkhlpmiblflaaGreatAbsD
set_option linter.unusedVariables false
set_option linter.unusedSimpArgs false
namespace Go.Proofs.YtpdkhlpmiblflaaGreat.Abs
open Go Go.RowKit
/-! ### No more block moves than single moves -/
theorem sub_less {α : Type} : ∀ {S x : List α}, S.Sublist x → S.length < x.length → ∃ a y b, x = a ++ y :: b ∧ S.Sublist (a ++ b)
  | _, _, .slnil, h => by simp at h
  | S, y :: x, .cons _ h', _ => ⟨[], y, x, rfl, h'⟩
  | s :: S, _ :: x, .cons_cons _ h', hl => by
    obtain ⟨a, y, b, e, h2⟩ := sub_less h' (by simpa using hl)
    exact ⟨s :: a, y, b, by rw [e]; rfl, h2.cons_cons s⟩
theorem sort_split (y : Int) : ∀ {S : List Int}, S.Pairwise (· ≤ ·) → ∃ S1 S2, S = S1 ++ S2 ∧ (S1 ++ y :: S2).Pairwise (· ≤ ·)
  | [], _ => ⟨[], [], rfl, List.pairwise_singleton _ _⟩
  | s :: S, h => by
    obtain ⟨h1, h2⟩ := List.pairwise_cons.1 h
    by_cases e : s ≤ y
    · obtain ⟨S1, S2, e1, e2⟩ := sort_split y h2
      refine ⟨s :: S1, S2, by rw [e1]; rfl, List.pairwise_cons.2 ⟨fun a ha => ?_, e2⟩⟩
      have ha : a ∈ S1 ++ y :: S2 := ha
      rw [List.mem_append, List.mem_cons] at ha
      rcases ha with ha | ha | ha
      · exact h1 a (by rw [e1]; exact List.mem_append_left _ ha)
      · rw [ha]; exact e
      · exact h1 a (by rw [e1]; exact List.mem_append_right _ ha)
    · refine ⟨[], s :: S, rfl, List.pairwise_cons.2 ⟨fun a ha => ?_, h⟩⟩
      rcases List.mem_cons.1 ha with rfl | ha
      · omega
      · have := h1 a ha; omega
theorem mvN_one (a b r1 r2 : List Int) (y : Int) (h : a ++ b = r1 ++ r2) : mvN (a ++ y :: b) (a.length, 1, r1.length) = r1 ++ y :: r2 := by
  have e1 : (a ++ y :: b).take a.length = a := by rw [List.take_append_of_le_length (Nat.le_refl _), List.take_length]
  have e2 : (a ++ y :: b).drop a.length = y :: b := by rw [List.drop_append_of_le_length (Nat.le_refl _), List.drop_length]; rfl
  have e3 : (a ++ y :: b).drop (a.length + 1) = b := by rw [← List.drop_drop, e2]; rfl
  have e4 : (r1 ++ r2).take r1.length = r1 := by rw [List.take_append_of_le_length (Nat.le_refl _), List.take_length]
  have e5 : (r1 ++ r2).drop r1.length = r2 := by rw [List.drop_append_of_le_length (Nat.le_refl _), List.drop_length]; rfl
  show ((a ++ y :: b).take a.length ++ (a ++ y :: b).drop (a.length + 1)).take r1.length ++ ((a ++ y :: b).drop a.length).take 1 ++ ((a ++ y :: b).take a.length ++ (a ++ y :: b).drop (a.length + 1)).drop r1.length = _
  rw [e1, e2, e3, h, e4, e5, List.append_assoc]; rfl
theorem dpt_few {n : Nat} {s0 : Nd} (hn : n ≤ 6) (h0 : okN n s0) (hs0 : s0.Pairwise (· ≤ ·)) : ∀ (d : Nat) (x S : List Int), x.Perm s0 → S.Sublist x → S.Pairwise (· ≤ ·) → S.length + d = n → dpt (endB n s0) x ≤ d
  | 0, x, S, hx, hS, hp, hl => by
    have hxl : x.length = n := hx.length_eq.trans h0.1
    have e : S = x := hS.eq_of_length (by omega)
    subst e
    have e2 : S = s0 := hx.eq_of_pairwise (fun a b _ _ h1 h2 => Int.le_antisymm h1 h2) hp hs0
    rw [e2]
    have hr := end_bi n s0
    have : dpt (endB n s0) s0 = 0 := hr.root.2
    omega
  | d + 1, x, S, hx, hS, hp, hl => by
    have hxl : x.length = n := hx.length_eq.trans h0.1
    obtain ⟨a, y, b, e, h2⟩ := sub_less hS (by omega)
    obtain ⟨S1, S2, e1, h3⟩ := sort_split y hp
    rw [e1] at h2
    obtain ⟨r1, r2, e2, h4, h5⟩ := List.append_sublist_iff.1 h2
    have hm := mvN_one a b r1 r2 y e2
    have hlx : a.length + 1 + b.length = n := by rw [← hxl, e]; simp; omega
    have hlr : r1.length + r2.length + 1 = n := by
      have := congrArg List.length e2
      simp only [List.length_append] at this
      omega
    have hb : (a.length, 1, r1.length) ∈ blks n := mem_blks.2 ⟨Nat.le_refl _, by omega, by omega⟩
    have h6 := end_near hn h0 hx hb
    rw [e, hm] at h6
    have h7 := dpt_few hn h0 hs0 d (r1 ++ y :: r2) (S1 ++ y :: S2) (by rw [← hm, ← e]; exact mvN_ok hn h0 hx _) (h4.append (h5.cons_cons y)) h3 (by rw [e1] at hl; simp only [List.length_append, List.length_cons] at hl ⊢; omega)
    rw [e]
    omega

/-! ### Ranks -/
theorem cmpU_lt_le {a b c : Bk} (h1 : cmpU a b < 0) (h2 : cmpU b c ≤ 0) : cmpU a c < 0 := by
  rcases Int.lt_or_le (cmpU a c) 0 with h | h
  · exact h
  · have h3 : cmpU c a ≤ 0 := by have := cmpU_anti a c; omega
    have h4 := cmpU_trans h2 h3
    have := cmpU_anti a b
    omega
theorem countP_lt {α : Type} {p q : α → Bool} (himp : ∀ c, p c = true → q c = true) {b : α} (hp : p b = false) (hq : q b = true) : ∀ {l : List α}, b ∈ l → l.countP p < l.countP q
  | a :: l, h => by
    have hm : l.countP p ≤ l.countP q := List.countP_mono_left (fun c _ hc => himp c hc)
    rcases List.mem_cons.1 h with rfl | h'
    · rw [List.countP_cons, List.countP_cons, if_pos hq, if_neg (by rw [hp]; simp)]
      omega
    · have ih := countP_lt himp hp hq h'
      rw [List.countP_cons, List.countP_cons]
      have := himp a
      cases hpa : p a with
      | true => rw [if_pos rfl, if_pos (this hpa)]; omega
      | false =>
        rw [if_neg (by simp)]
        split <;> omega
theorem rankN_eq (xs : List Bk) (b : Bk) : rankN xs b = xs.countP (fun a => decide (cmpU a b < 0)) := by
  rw [rankN, cntB, List.take_length, List.countP_eq_length_filter]
theorem rank_le {xs : List Bk} {a b : Bk} (h : cmpU a b ≤ 0) : rankN xs a ≤ rankN xs b := by
  rw [rankN_eq, rankN_eq]
  exact List.countP_mono_left (fun c _ hc => by simp only [decide_eq_true_eq] at hc ⊢; exact cmpU_lt_le hc h)
theorem rank_back {xs : List Bk} {a b : Bk} (hb : b ∈ xs) (h : rankN xs a ≤ rankN xs b) : cmpU a b ≤ 0 := by
  rcases Int.lt_or_le 0 (cmpU a b) with h1 | h1
  · exfalso
    have h2 : cmpU b a < 0 := by have := cmpU_anti a b; omega
    have h3 : xs.countP (fun c => decide (cmpU c b < 0)) < xs.countP (fun c => decide (cmpU c a < 0)) :=
      countP_lt (b := b) (fun c hc => by simp only [decide_eq_true_eq] at hc ⊢; exact cmpU_lt_le hc (by omega)) (by have := cmpU_anti b b; simp; omega) (by simpa using h2) hb
    rw [rankN_eq, rankN_eq] at h
    omega
  · exact h1
theorem rank_perm {ys xs : List Bk} (hp : ys.Perm xs) (b : Bk) : rankN ys b = rankN xs b := by
  rw [rankN_eq, rankN_eq]; exact hp.countP_eq _
theorem ordN_perm {ys xs : List Bk} (hp : ys.Perm xs) : ordN ys = ys.map fun b => ((rankN xs b : Nat) : Int) := by
  unfold ordN
  exact List.map_congr_left (fun b _ => by rw [rank_perm hp])
theorem ordN_car (ys : List Bk) (f c t : Nat) : ordN (carried ys f c t) = mvN (ordN ys) (f, c, t) := by
  rw [ordN_perm (carried_perm ys f c t)]
  exact (carried_map _ _ _ _ _).symm
theorem ordN_pm {ys xs : List Bk} (hp : ys.Perm xs) : (ordN ys).Perm (ordN xs) := by
  rw [ordN_perm hp]; exact hp.map _
theorem sort_pm {ys xs : List Bk} (hp : ys.Perm xs) : sortI (ordN ys) = sortI (ordN xs) := sortI_eq ((sortI_perm _).trans (ordN_pm hp).symm) (sortI_le _)
theorem farX_pm {ys xs : List Bk} (hp : ys.Perm xs) (x : Nd) : farX ys x = farX xs x := by rw [farX_def, farX_def, sort_pm hp, hp.length_eq]
theorem valid_pm {ys xs : List Bk} (hp : ys.Perm xs) : validBs ys = validBs xs := by
  unfold validBs
  rw [hp.length_eq, Bool.eq_iff_iff]
  simp only [Bool.and_eq_true, List.all_eq_true, decide_eq_true_eq]
  exact ⟨fun h => ⟨h.1, fun b hb => h.2 b (hp.mem_iff.2 hb)⟩, fun h => ⟨h.1, fun b hb => h.2 b (hp.mem_iff.1 hb)⟩⟩
theorem codeK_0 {xs : List Bk} (hv : validBs xs = true) (h6 : xs.length ≤ 6) : codeK xs = 0 := by
  rw [codeK, if_neg (by rw [hv]; simp), if_neg (by simp; omega)]
/-! ### The way -/
theorem wayX_get {xs : List Bk} (h6 : xs.length ≤ 6) {i : Nat} (d : B3) : ∀ m, i < m → m ≤ farX xs (ordN xs) → (wayX xs m).1.getD i d = nrB (ordN xs).length (sortI (ordN xs)) (wayX xs i).2
  | 0, hi, _ => by omega
  | m + 1, hi, hm => by
    have hl := (wayP h6 (Nat.le_of_succ_le hm)).ln
    rw [wayX_suc h6 hm]
    rcases Nat.eq_or_lt_of_le (Nat.le_of_lt_succ hi) with e | h
    · subst e
      simp only [List.getD]
      rw [List.getElem?_append_right (by omega), hl, Nat.sub_self]
      rfl
    · rw [← wayX_get h6 d m h (Nat.le_of_succ_le hm)]
      simp only [List.getD]
      rw [List.getElem?_append_left (by omega)]
def bkW (xs : List Bk) (ms : List Blk) : Nat → List Bk
  | 0 => xs
  | i + 1 => carB (bkW xs ms i) (ms.getD i br0)
theorem bfR_0 {xs : List Bk} (hv : validBs xs = true) (h6 : xs.length ≤ 6) : bfR xs = ((wayX xs (farX xs (ordN xs))).1.map b3I, 0) := by
  rw [bfR, if_neg (by rw [codeK_0 hv h6]; simp)]
theorem lbR_0 {xs : List Bk} (hv : validBs xs = true) (h6 : xs.length ≤ 6) : lbR xs = (((farX xs (ordN xs) : Nat) : Int), 0) := by
  rw [lbR, if_neg (by rw [codeK_0 hv h6]; simp)]
theorem bfR_ln {xs : List Bk} (hv : validBs xs = true) (h6 : xs.length ≤ 6) : (bfR xs).1.length = farX xs (ordN xs) := by
  rw [bfR_0 hv h6, List.length_map]
  exact (wayP h6 (Nat.le_refl _)).ln
theorem bfR_get {xs : List Bk} (hv : validBs xs = true) (h6 : xs.length ≤ 6) {i : Nat} (hi : i < farX xs (ordN xs)) : (bfR xs).1.getD i br0 = b3I (nrB (ordN xs).length (sortI (ordN xs)) (wayX xs i).2) := by
  have h1 := (wayP h6 (Nat.le_refl _)).ln
  rw [bfR_0 hv h6, ← wayX_get h6 (0, 0, 0) _ hi (Nat.le_refl _)]
  simp [List.getD, h1, hi]
structure BkW (xs : List Bk) (i : Nat) (now : List Bk) : Prop where
  pm : now.Perm xs
  od : ordN now = (wayX xs i).2
theorem bkW_ok {xs : List Bk} (hv : validBs xs = true) (h6 : xs.length ≤ 6) : ∀ i, i ≤ farX xs (ordN xs) → BkW xs i (bkW xs (bfR xs).1 i)
  | 0, _ => ⟨List.Perm.refl _, by rw [wayX_0]; rfl⟩
  | i + 1, hi => by
    have ih := bkW_ok hv h6 i (by omega)
    rw [bkW, bfR_get hv h6 hi]
    generalize bkW xs (bfR xs).1 i = ys at ih ⊢
    have hw := wayX_suc h6 hi
    obtain ⟨⟨f, c, t⟩, hb⟩ : ∃ b, nrB (ordN xs).length (sortI (ordN xs)) (wayX xs i).2 = b := ⟨_, rfl⟩
    rw [hb] at hw ⊢
    have e : carB ys (b3I (f, c, t)) = carried ys f c t := rfl
    rw [e]
    exact ⟨(carried_perm _ _ _ _).trans ih.pm, by rw [ordN_car, hw, ih.od]⟩
theorem bkW_b {xs : List Bk} (hv : validBs xs = true) (h6 : xs.length ≤ 6) {i : Nat} (hi : i < farX xs (ordN xs)) : isBlk ((bfR xs).1.getD i br0) ∧ blkBad xs.length ((bfR xs).1.getD i br0) = false := by
  rw [bfR_get hv h6 hi]
  have h6' : (ordN xs).length ≤ 6 := by rw [ordN_len]; exact h6
  have hp := wayP h6 (Nat.le_of_lt hi)
  have hlt := hp.lt
  obtain ⟨⟨f, c, t⟩, e1, e2, e3⟩ := near_ex h6' hp.h0 hp.pm (by omega)
  have e4 : nrB (ordN xs).length (sortI (ordN xs)) (wayX xs i).2 = (f, c, t) := by rw [nrB, e1]; rfl
  rw [e4]
  rw [ordN_len] at e2
  have hb := mem_blks.1 e2
  exact ⟨⟨(show isI16 ((f : Nat) : Int) from ⟨by omega, by omega⟩), (show isI16 ((c : Nat) : Int) from ⟨by omega, by omega⟩), (show isI16 ((t : Nat) : Int) from ⟨by omega, by omega⟩)⟩, bad_blks e2⟩
theorem bkW_far {xs : List Bk} (hv : validBs xs = true) (h6 : xs.length ≤ 6) {i : Nat} (hi : i ≤ farX xs (ordN xs)) : lbR (bkW xs (bfR xs).1 i) = (((farX xs (ordN xs) - i : Nat) : Int), 0) := by
  obtain ⟨h1, h2⟩ := bkW_ok hv h6 i hi
  rw [lbR_0 (by rw [valid_pm h1]; exact hv) (by rw [h1.length_eq]; exact h6), farX_pm h1, h2]
  have h3 := (wayP h6 hi).lt
  rw [← farX_eq] at h3
  rw [show farX xs (wayX xs i).2 = farX xs (ordN xs) - i by omega]
theorem bkW_srt {xs : List Bk} (hv : validBs xs = true) (h6 : xs.length ≤ 6) : (ordN (bkW xs (bfR xs).1 (farX xs (ordN xs)))).Pairwise (· ≤ ·) := by
  obtain ⟨h1, h2⟩ := bkW_ok hv h6 _ (Nat.le_refl _)
  have hp := wayP h6 (Nat.le_refl (farX xs (ordN xs)))
  have h3 := hp.lt
  have h4 := end_zero (by rw [ordN_len]; exact h6) hp.h0 hp.pm (by omega)
  rw [h2, h4]
  exact sortI_le _
theorem srt_le {ys : List Bk} (h : (ordN ys).Pairwise (· ≤ ·)) {j : Nat} (h1 : 1 ≤ j) (h2 : j < ys.length) : ¬ cmpU (ys.getD j bk0) (ys.getD (j - 1) bk0) < 0 := by
  have h3 := List.pairwise_iff_getElem.1 h (j - 1) j (by rw [ordN_len]; omega) (by rw [ordN_len]; exact h2) (by omega)
  simp only [ordN, List.getElem_map] at h3
  have h4 := rank_back (xs := ys) (a := ys[j - 1]) (b := ys[j]) (List.getElem_mem _) (by omega)
  have e1 : ys.getD j bk0 = ys[j] := by simp [List.getD, h2]
  have e2 : ys.getD (j - 1) bk0 = ys[j - 1] := by simp [List.getD, show j - 1 < ys.length by omega]
  rw [e1, e2]
  have := cmpU_anti ys[j - 1] ys[j]
  omega

/-! ### What is kept rises -/
theorem sel_rise (le : Nat → Nat → Bool) (f : List Int) (most : Int) (x : List Int) (hle : ∀ i j, i < x.length → j < x.length → le i j = true → x.getD i 0 ≤ x.getD j 0) : ∀ i, i ≤ x.length →
    ((selF le f most i).1.map fun k => x.getD k 0).Sublist (x.take i) ∧ ((selF le f most i).1.map fun k => x.getD k 0).Pairwise (· ≤ ·) ∧ ((selF le f most i).1 ≠ [] → (selF le f most i).1.getD ((selF le f most i).1.length - 1) 0 < i ∧ ∀ k ∈ (selF le f most i).1, x.getD k 0 ≤ x.getD ((selF le f most i).1.getD ((selF le f most i).1.length - 1) 0) 0)
  | 0, _ => ⟨by simp [selF], by simp [selF], fun h => by simp [selF] at h⟩
  | i + 1, hi => by
    obtain ⟨h1, h2, h3⟩ := sel_rise le f most x hle i (by omega)
    have ht : x.take (i + 1) = x.take i ++ [x.getD i 0] := by
      rw [List.take_succ_eq_append_getElem (show i < x.length by omega)]
      simp [List.getD, show i < x.length by omega]
    by_cases hc : 0 < (selF le f most i).2 ∧ pickB le f (selF le f most i) i = true
    · rw [selF_yes hc.1 hc.2]
      have hp := hc.2
      generalize selF le f most i = s at *
      simp only
      have hall : ∀ k ∈ s.1, x.getD k 0 ≤ x.getD i 0 := fun k hk => by
        have hne : s.1 ≠ [] := fun e => by rw [e] at hk; cases hk
        obtain ⟨a1, a2⟩ := h3 hne
        have a3 := a2 k hk
        simp only [pickB, Bool.and_eq_true, Bool.or_eq_true, decide_eq_true_eq] at hp
        rcases hp.2 with h | h
        · exact absurd h hne
        · have := hle _ _ (by omega) (by omega) h
          omega
      have hlast : (s.1 ++ [i]).getD ((s.1 ++ [i]).length - 1) 0 = i := by simp [List.getD]
      refine ⟨?_, ?_, fun _ => ?_⟩
      · rw [ht, List.map_append]
        exact h1.append (List.Sublist.refl _)
      · rw [List.map_append, List.pairwise_append]
        refine ⟨h2, List.pairwise_singleton _ _, fun a ha b hb => ?_⟩
        obtain ⟨k, hk, rfl⟩ := List.mem_map.1 ha
        rw [List.map_cons, List.map_nil, List.mem_singleton] at hb
        rw [hb]
        exact hall k hk
      · rw [hlast]
        refine ⟨by omega, fun k hk => ?_⟩
        rcases List.mem_append.1 hk with hk | hk
        · exact hall k hk
        · rw [List.mem_singleton.1 hk]; exact Int.le_refl _
    · rw [selF_no hc]
      refine ⟨?_, h2, fun h => ?_⟩
      · rw [ht]; exact h1.trans (List.sublist_append_left _ _)
      · obtain ⟨a1, a2⟩ := h3 h
        exact ⟨by omega, a2⟩

/-! ### Breaks -/
theorem cntF_none {p : Nat → Bool} : ∀ n, cntF p n = 0 → ∀ k, k < n → p k = false
  | 0, _, k, hk => by omega
  | n + 1, h, k, hk => by
    have hb := cntF_b p n
    rw [cntF] at h
    have h0 : p n = false ∧ cntF p n = 0 := by
      cases hp : p n with
      | true => rw [hp] at h; simp at h; omega
      | false => rw [hp] at h; simp at h; exact ⟨rfl, h⟩
    by_cases e : k = n
    · rw [e]; exact h0.1
    · exact cntF_none n h0.2 k (by omega)
theorem cntF_zero {p : Nat → Bool} : ∀ n, (∀ k, k < n → p k = false) → cntF p n = 0
  | 0, _ => rfl
  | n + 1, h => by
    rw [cntF, h n (by omega), cntF_zero n (fun k hk => h k (by omega))]; rfl
theorem cntF_low (i : Nat) : ∀ n, cntF (fun k => decide (k < i)) n = (min i n : Nat)
  | 0 => by simp [cntF]
  | n + 1 => by
    rw [cntF, cntF_low i n]
    by_cases e : n < i
    · rw [decide_eq_true e]; simp; omega
    · rw [decide_eq_false e]; simp; omega
theorem bkp_iota (xs : List Bk) : bkp xs (iotaL xs.length) = xs := by
  refine list_ext' (d := bk0) (by rw [bkp_len, iotaL_len]) (fun j hj => ?_)
  rw [bkp_len, iotaL_len] at hj
  rw [bkp_get _ _ (by rw [iotaL_len]; exact hj), iotaL_get hj, Int.toNat_natCast]
theorem brk_none {xs : List Bk} (h : cntF (brkS (rkL xs)) xs.length = 0) : srtB xs = xs := by
  rw [brk_eq (inv_rk xs)] at h
  have h1 := cntF_none _ h
  have h2 : ∀ r, r < xs.length → (plcL xs).getD r 0 = r := by
    intro r
    induction r with
    | zero =>
      intro hr
      have := h1 0 hr
      simp only [brkI, lastP, if_true, bne_eq_false_iff_eq] at this
      rw [this]; rfl
    | succ r ih =>
      intro hr
      have := h1 (r + 1) hr
      simp only [brkI, lastP, bne_eq_false_iff_eq] at this
      rw [this, if_neg (by omega), show r + 1 - 1 = r by omega, ih (by omega)]
      rfl
  have h3 : plcL xs = iotaL xs.length := ext_getD (by rw [plcL_len, iotaL_len]) (fun j hj => by
    rw [plcL_len] at hj
    rw [h2 j hj, iotaL_get hj])
  rw [srtB, h3, bkp_iota]
theorem srtB_perm (xs : List Bk) : (srtB xs).Perm xs := by
  have h1 : (plcL xs).Perm (iotaL xs.length) := srt_perm _ _ _ _
  have h2 : (bkp xs (plcL xs)).Perm (bkp xs (iotaL xs.length)) := h1.map _
  rw [bkp_iota] at h2
  exact h2
theorem srtB_le (xs : List Bk) {i j : Nat} (hij : i < j) (hj : j < xs.length) : cmpU ((srtB xs).getD i bk0) ((srtB xs).getD j bk0) ≤ 0 := by
  have hl := plcL_len xs
  have h := List.pairwise_iff_getElem.1 (ipl_pw xs xs.length) i j (by rw [ipl_len]; omega) (by rw [ipl_len]; omega) hij
  have h2 : ltC (cP xs) ((plcL xs).getD i 0) ((plcL xs).getD j 0) := by
    have e : ipl xs xs.length = plcL xs := rfl
    simp only [e] at h
    simpa [List.getD, hl, hj, show i < xs.length by omega] using h
  rw [srtB, bkp_get _ _ (by omega), bkp_get _ _ (by omega)]
  exact ltC_le (ord_cP xs) h2
theorem brk_srt {ys : List Bk} (hs : ∀ i j, i < j → j < ys.length → cmpU (ys.getD i bk0) (ys.getD j bk0) ≤ 0) : cntF (brkS (rkL ys)) ys.length = 0 := by
  have hr : ∀ i, i < ys.length → (rkL ys).getD i 0 = i := fun i hi => by
    rw [rkR_get ys _ i hi]
    have e : cntF (rkB ys i) ys.length = cntF (fun k => decide (k < i)) ys.length := cntF_congr _ (fun k hk => by
      rw [Bool.eq_iff_iff]
      show ltB (cP ys) (k : Nat) (i : Nat) = true ↔ decide (k < i) = true
      rw [ltB_iff, decide_eq_true_eq]
      have ec : ∀ a b : Nat, cP ys (a : Nat) (b : Nat) = cmpU (ys.getD a bk0) (ys.getD b bk0) := fun a b => by simp [cP]
      unfold ltC
      rw [ec k i]
      rcases Nat.lt_trichotomy k i with h | h | h
      · have := hs k i h hi
        omega
      · subst h
        have := cmpU_anti (ys.getD k bk0) (ys.getD k bk0)
        omega
      · have := hs i k h hk
        have := cmpU_anti (ys.getD i bk0) (ys.getD k bk0)
        omega)
    rw [e, cntF_low, Nat.min_eq_left (by omega)]
  refine cntF_zero _ (fun i hi => ?_)
  unfold brkS
  rw [hr i hi]
  by_cases e : i = 0
  · subst e; simp
  · rw [hr (i - 1) (by omega)]
    simp only [Bool.or_eq_false_iff, Bool.and_eq_false_iff, beq_eq_false_iff_ne, bne_eq_false_iff_eq, decide_eq_false_iff_not]
    refine ⟨.inl (by omega), .inr (by omega)⟩
/-! ### What the law says -/
theorem few_ge {xs : List Bk} (h6 : xs.length ≤ 6) : farX xs (ordN xs) + (keptL xs).length ≤ xs.length := by
  have h0 := okN_sort (okN_ord h6)
  have hk := keptL_len xs
  have hol := ordN_len xs
  have hr := sel_rise (leU xs) (behA xs) (topA xs) (ordN xs) (fun i j hi hj hle => by
    rw [hol] at hi hj
    have e : ∀ k, k < xs.length → (ordN xs).getD k 0 = ((rankN xs (xs.getD k bk0) : Nat) : Int) := fun k hk => by simp [ordN, List.getD, hk]
    rw [e i hi, e j hj]
    have h1 : cmpU (xs.getD i bk0) (xs.getD j bk0) ≤ 0 := by simpa [leU] using hle
    have := rank_le (xs := xs) h1
    omega) xs.length (by omega)
  have hlk : (keptL xs).length = ((selF (leU xs) (behA xs) (topA xs) xs.length).1.map fun k => (ordN xs).getD k 0).length := by rw [keptL, natI_len, List.length_map]
  rw [farX_def, hlk]
  rw [hlk] at hk
  have := dpt_few h6 h0 (sortI_le _) (xs.length - ((selF (leU xs) (behA xs) (topA xs) xs.length).1.map fun k => (ordN xs).getD k 0).length) (ordN xs) _ (sortI_perm _).symm (hr.1.trans (List.take_sublist _ _)) hr.2.1 (by omega)
  omega
structure LawP (xs : List Bk) (ms : List Blk) (us : List Bk) (D : Nat) (F K : Int) : Prop where
  lb : lbR xs = ((D : Int), 0)
  bf : bfR xs = (ms, 0)
  ml : ms.length = D
  d6 : D ≤ 6
  lm : leastR xs = (F, 0)
  df : (D : Int) ≤ F
  bk : brkR xs = (K, 0)
  so : srtB xs = us
  ul : us.length = xs.length
  uv : ∀ b ∈ us, isBk b
  bu : brkR us = (0, 0)
  k0 : K = 0 → us = xs
  way : ∀ i, i ≤ D → (bkW xs ms i).Perm xs
  wb : ∀ i, i < D → isBlk (ms.getD i br0) ∧ blkBad xs.length (ms.getD i br0) = false
  wf : ∀ i, i ≤ D → lbR (bkW xs ms i) = (((D - i : Nat) : Int), 0)
  ws : srtP (bkW xs ms D)
theorem lawP {xs : List Bk} (hv : ∀ b ∈ xs, isBk b) (hval : validBs xs = true) (h6 : xs.length ≤ 6) : ∃ ms us D F K, LawP xs ms us D F K := by
  have hnv : ¬ (!validBs xs) = true := by rw [hval]; decide
  have hp := srtB_perm xs
  refine ⟨(bfR xs).1, srtB xs, farX xs (ordN xs), (xs.length : Int) - (keptL xs).length, cntF (brkS (rkL xs)) xs.length, lbR_0 hval h6, ?_, bfR_ln hval h6, farX_le h6 (List.Perm.refl _), ?_, ?_, ?_, rfl, hp.length_eq, fun b hb => hv b (hp.mem_iff.1 hb), ?_, brk_none, fun i hi => (bkW_ok hval h6 i hi).pm, fun i hi => bkW_b hval h6 hi, fun i hi => bkW_far hval h6 hi, ?_⟩
  · have h2 : (bfR xs).2 = 0 := by rw [bfR_0 hval h6]
    exact Prod.ext rfl h2
  · rw [leastR, if_neg hnv]
  · have := few_ge h6
    omega
  · rw [brkR, if_neg hnv]
  · rw [brkR, if_neg (by rw [valid_pm hp, hval]; decide), brk_srt (fun i j hij hj => srtB_le xs hij (by rw [srtB_len] at hj; exact hj))]
  · intro j h1 h2
    have h3 := srt_le (bkW_srt hval h6) h1 h2
    show decide (cmpU _ _ < 0) = false
    rw [decide_eq_false_iff_not]
    exact h3

theorem one_way {xs : List Bk} (hval : validBs xs = true) {f t : Nat} (hf : f < xs.length) (ht : t < xs.length) : mblR xs ((f : Int), 1, (t : Int)) = (carried xs f 1 t, 0) := by
  have hb : blkBad xs.length ((f : Int), 1, (t : Int)) = false := bad_blks (m := xs.length) (f := f) (c := 1) (t := t) (mem_blks.2 ⟨by omega, by omega, by omega⟩)
  rw [mblR, if_neg (by rw [hval]; decide), if_neg (by rw [hb]; decide)]
  rfl
theorem one_back {xs : List Bk} (hval : validBs xs = true) {f t : Nat} (hf : f < xs.length) (ht : t < xs.length) : mblR (carried xs f 1 t) ((t : Int), 1, (f : Int)) = (xs, 0) := by
  have hp := carried_perm xs f 1 t
  rw [one_way (by rw [valid_pm hp]; exact hval) (by rw [hp.length_eq]; exact ht) (by rw [hp.length_eq]; exact hf), carried_back (by omega) (by omega)]
end Go.Proofs.YtpdkhlpmiblflaaGreat.Abs

