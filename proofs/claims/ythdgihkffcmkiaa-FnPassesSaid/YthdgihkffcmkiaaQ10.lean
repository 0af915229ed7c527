import Derived.Test.YthdgihkffcmkiaaQ9
set_option linter.unusedVariables false
set_option linter.unusedSimpArgs false
namespace Go.Proofs.Ythdgihkffcmkiaa.Abs
open Go Go.RowKit

/-! ### Passes -/
section
variable {n : Nat} {sp rk : List Int} (h : InvP n sp rk)
include h
theorem psL_at : ∀ r, r ≤ n → ∀ s, s < r → (psL n sp r).getD (sp.getD s 0).toNat 0 = psP sp (s + 1)
  | 0, _, s, hs => by omega
  | r + 1, hr, s, hs => by
    have hg := h.rng (show r < n by omega)
    have hgs := h.rng (show s < n by omega)
    rw [psL, set_getD (by rw [psL_len]; omega)]
    by_cases e : s = r
    · subst e; rw [if_pos rfl]
    · rw [if_neg (fun e2 => e (h.inj (by omega) (by omega) (by omega)))]
      exact psL_at r (by omega) s (by omega)
theorem psP_next {r : Nat} (hr : r + 1 < n) : psP sp (r + 1) < psP sp (r + 2) ∨ (psP sp (r + 1) = psP sp (r + 2) ∧ sp.getD r 0 < sp.getD (r + 1) 0) := by
  have hne : sp.getD (r + 1) 0 ≠ sp.getD r 0 := fun e => by have := h.inj hr (by omega) e; omega
  have el : lastP sp (r + 1) = sp.getD r 0 := by rw [lastP, if_neg (by omega)]; rfl
  have e : psP sp (r + 2) = if sp.getD (r + 1) 0 < sp.getD r 0 then psP sp (r + 1) + 1 else psP sp (r + 1) := by rw [← el]; rfl
  rw [e]
  split
  · left; omega
  · right; omega
theorem psP_lex {r : Nat} : ∀ d, r + d + 1 < n → psP sp (r + 1) < psP sp (r + d + 2) ∨ (psP sp (r + 1) = psP sp (r + d + 2) ∧ sp.getD r 0 < sp.getD (r + d + 1) 0)
  | 0, hd => psP_next h hd
  | d + 1, hd => by
    have h1 := psP_lex (r := r) d (by omega)
    have h2 := psP_next h (r := r + d + 1) (by omega)
    rw [show r + (d + 1) + 2 = r + d + 1 + 2 by omega, show r + (d + 1) + 1 = r + d + 1 + 1 by omega]
    rw [show r + d + 2 = r + d + 1 + 1 by omega] at h1
    omega
theorem psP_top : ∀ r, r < n → psP sp (r + 1) ≤ r + 1
  | 0, hr => by
    have := h.rng hr
    rw [psP, lastP, if_pos rfl, if_neg (by omega)]
    simp [psP]
  | r + 1, hr => by
    have h1 := psP_top r (by omega)
    have e : psP sp (r + 1 + 1) = if sp.getD (r + 1) 0 < lastP sp (r + 1) then psP sp (r + 1) + 1 else psP sp (r + 1) := rfl
    rw [e]
    split <;> omega
theorem psL_le {i : Nat} (hi : i < n) : (psL n sp n).getD i 0 ≤ n := by
  obtain ⟨r, h1, h2, _⟩ := h.sur hi
  have h3 := psL_at h n (Nat.le_refl _) r h1
  rw [h2, Int.toNat_natCast] at h3
  have h4 := psP_top h r h1
  omega
end
theorem topF_ge (f0 : Int) (f : List Int) : ∀ i, ∀ k, k < i → f.getD k 0 ≤ topF f0 f i
  | 0, k, hk => by omega
  | i + 1, k, hk => by
    have h1 := maxI_b (topF f0 f i) (f.getD i 0)
    rw [topF]
    by_cases e : k = i
    · subst e; omega
    · have := topF_ge f0 f i k (by omega); omega
theorem topF_le {f0 m : Int} {f : List Int} (h0 : f0 ≤ m) : ∀ i, (∀ k, k < i → f.getD k 0 ≤ m) → topF f0 f i ≤ m
  | 0, _ => h0
  | i + 1, h => by
    have h1 := maxI_b (topF f0 f i) (f.getD i 0)
    have h2 := topF_le h0 i (fun k hk => h k (by omega))
    have h3 := h i (by omega)
    rw [topF]; omega
theorem topF_ge0 {f0 : Int} {f : List Int} : ∀ i, f0 ≤ topF f0 f i
  | 0 => by simp [topF]
  | i + 1 => by
    have h1 := maxI_b (topF f0 f i) (f.getD i 0)
    have h2 := topF_ge0 (f0 := f0) (f := f) i
    rw [topF]; omega
structure TakP (xs : List Bk) (p : Int) (i r : Nat) : Prop where
  rn : r ≤ xs.length
  iff : ∀ s, s < xs.length → (s < r ↔ (psP (plcL xs) (s + 1) < p ∨ (psP (plcL xs) (s + 1) = p ∧ (plcL xs).getD s 0 < i)))
theorem due_at (xs : List Bk) {s : Nat} (hs : s < xs.length) : (passL xs).getD ((plcL xs).getD s 0).toNat 0 = psP (plcL xs) (s + 1) := psL_at (inv_rk xs) _ (Nat.le_refl _) s hs
theorem takP_0 (xs : List Bk) : TakP xs 1 0 0 := ⟨Nat.zero_le _, fun s hs => by
  have h1 := psP_b (plcL xs) (s + 1)
  have h2 := plcL_b xs hs
  omega⟩
theorem takP_hit {xs : List Bk} {p : Int} {i r : Nat} (h : TakP xs p i r) (hi : i < xs.length) (hd : (passL xs).getD i 0 = p) : r < xs.length ∧ (plcL xs).getD r 0 = i ∧ TakP xs p (i + 1) (r + 1) := by
  have hIv := inv_rk xs
  obtain ⟨s, hs, he, _⟩ := hIv.sur hi
  have hds := due_at xs hs
  rw [he, Int.toNat_natCast, hd] at hds
  have hge : r ≤ s := by
    have := (h.iff s hs)
    omega
  have hsr : s = r := by
    rcases Nat.lt_or_ge r s with hlt | _
    · exfalso
      have h1 := h.iff r (by omega)
      have h2 := psP_lex hIv (r := r) (s - r - 1) (by omega)
      rw [show r + (s - r - 1) + 2 = s + 1 by omega, show r + (s - r - 1) + 1 = s by omega] at h2
      omega
    · omega
  subst hsr
  refine ⟨hs, he, ⟨by omega, fun t ht => ?_⟩⟩
  have h1 := h.iff t ht
  by_cases e : t = s
  · subst e; omega
  · have hne : (plcL xs).getD t 0 ≠ i := fun e2 => e (hIv.inj ht hs (e2.trans he.symm))
    omega
theorem takP_miss {xs : List Bk} {p : Int} {i r : Nat} (h : TakP xs p i r) (hi : i < xs.length) (hd : (passL xs).getD i 0 ≠ p) : TakP xs p (i + 1) r := by
  have hIv := inv_rk xs
  refine ⟨h.rn, fun t ht => ?_⟩
  have h1 := h.iff t ht
  have h2 := due_at xs ht
  by_cases e : (plcL xs).getD t 0 = i
  · rw [e, Int.toNat_natCast] at h2
    omega
  · omega
theorem takP_next {xs : List Bk} {p : Int} {r : Nat} (h : TakP xs p xs.length r) : TakP xs (p + 1) 0 r := by
  refine ⟨h.rn, fun t ht => ?_⟩
  have h1 := h.iff t ht
  have h2 := plcL_b xs ht
  omega
theorem takP_end {xs : List Bk} {p : Int} {r : Nat} (h : TakP xs p 0 r) (hp : ∀ s, s < xs.length → psP (plcL xs) (s + 1) < p) : r = xs.length := by
  have h0 := h.rn
  rcases Nat.lt_or_ge r xs.length with h1 | h1
  · have h2 := h.iff r h1
    have h3 := hp r h1
    omega
  · omega
theorem pass_lt (xs : List Bk) {s : Nat} (hs : s < xs.length) : psP (plcL xs) (s + 1) < topF 0 (passL xs) xs.length + 1 := by
  have h1 := due_at xs hs
  have h2 := plcL_b xs hs
  have h3 := topF_ge 0 (passL xs) xs.length ((plcL xs).getD s 0).toNat (by omega)
  omega
theorem pass_b (xs : List Bk) : 0 ≤ topF 0 (passL xs) xs.length ∧ topF 0 (passL xs) xs.length ≤ xs.length :=
  ⟨topF_ge0 _, topF_le (by omega) _ (fun k hk => psL_le (inv_rk xs) hk)⟩
theorem bkp_take_suc (xs : List Bk) {r i : Nat} (hr : r < xs.length) (he : (plcL xs).getD r 0 = i) : bkp xs ((plcL xs).take (r + 1)) = bkp xs ((plcL xs).take r) ++ [xs.getD i bk0] := by
  have hl : r < (plcL xs).length := by rw [plcL_len]; exact hr
  rw [List.take_succ_eq_append_getElem hl, bkp, List.map_append]
  congr 1
  have : (plcL xs)[r] = (i : Int) := by rw [← he]; simp [List.getD, hl]
  simp [this]
/-! ### Pairs out of order -/
def invL : List Int → Nat
  | [] => 0
  | x :: xs => xs.countP (fun y => decide (y < x)) + invL xs
theorem invL_ins (y : Int) (R : List Int) : ∀ M : List Int, invL (M ++ y :: R) = invL (M ++ R) + M.countP (fun a => decide (y < a)) + R.countP (fun a => decide (a < y))
  | [] => by simp [invL]; omega
  | a :: M => by
    have ih := invL_ins y R M
    simp only [List.cons_append, invL, List.countP_append, List.countP_cons, ih]
    omega
theorem invL_swap {x m : Int} {M R : List Int} (hx : m < x) (hM : ∀ a ∈ M, m < a) : ∀ P : List Int, invL (P ++ m :: (M ++ x :: R)) + 1 ≤ invL (P ++ x :: (M ++ m :: R))
  | [] => by
    have h1 := invL_ins x R M
    have h2 := invL_ins m R M
    have h3 : M.countP (fun a => decide (m < a)) = M.length := List.countP_eq_length.2 (fun a ha => by simpa using hM a ha)
    have h4 : M.countP (fun a => decide (x < a)) ≤ M.length := List.countP_le_length
    have h5 : M.countP (fun a => decide (a < m)) = 0 := List.countP_eq_zero.2 (fun a ha => by have := hM a ha; simp; omega)
    simp only [List.nil_append, invL, List.countP_append, List.countP_cons, h1, h2, h3, h5, decide_eq_true_eq, if_pos hx, if_neg (show ¬ x < m by omega)]
    omega
  | p :: P => by
    have ih := invL_swap (R := R) hx hM P
    simp only [List.cons_append, invL, List.countP_append, List.countP_cons]
    omega
theorem swp_parts {l : List Int} {i j : Nat} (hij : i < j) (hj : j < l.length) : ∃ P M R : List Int, l = P ++ l.getD i 0 :: (M ++ l.getD j 0 :: R) ∧ swp l i j = P ++ l.getD j 0 :: (M ++ l.getD i 0 :: R) ∧ P.length = i ∧ M.length = j - i - 1 := by
  have hl1 : (l.take i).length = i := by rw [List.length_take]; omega
  have hl2 : ((l.drop (i + 1)).take (j - i - 1)).length = j - i - 1 := by rw [List.length_take, List.length_drop]; omega
  have e0 : l = l.take i ++ l.getD i 0 :: ((l.drop (i + 1)).take (j - i - 1) ++ l.getD j 0 :: l.drop (j + 1)) := by
    have a1 : l.drop (i + 1) = (l.drop (i + 1)).take (j - i - 1) ++ l.getD j 0 :: l.drop (j + 1) := by
      have a2 : (l.drop (i + 1)).drop (j - i - 1) = l.getD j 0 :: l.drop (j + 1) := by
        rw [List.drop_drop, show i + 1 + (j - i - 1) = j by omega, List.drop_eq_getElem_cons hj]
        simp [List.getD, hj]
      rw [← a2, List.take_append_drop]
    rw [← a1]
    have a3 : l.drop i = l.getD i 0 :: l.drop (i + 1) := by
      rw [List.drop_eq_getElem_cons (by omega)]
      simp [List.getD, show i < l.length by omega]
    rw [← a3, List.take_append_drop]
  refine ⟨l.take i, (l.drop (i + 1)).take (j - i - 1), l.drop (j + 1), e0, ?_, hl1, hl2⟩
  generalize l.take i = P at *
  generalize (l.drop (i + 1)).take (j - i - 1) = M at *
  generalize l.drop (j + 1) = R at *
  unfold swp
  generalize l.getD i 0 = x at *
  generalize l.getD j 0 = m at *
  subst e0
  rw [List.set_append, if_neg (by omega), hl1, Nat.sub_self, List.set_cons_zero, List.set_append, if_neg (by omega), hl1]
  obtain ⟨d, hd⟩ : ∃ d, j - i = d + 1 := ⟨j - i - 1, by omega⟩
  rw [hd, List.set_cons_succ, List.set_append, if_neg (by omega), hl2, show d - (j - i - 1) = 0 by omega, List.set_cons_zero]
section
variable {n : Nat} {sp rk : List Int} (h : InvP n sp rk)
include h
theorem sw_inv : ∀ i, i ≤ n → (swS n sp i).2.length + invL (rkN rk (swS n sp i).1) ≤ invL rk
  | 0, _ => by
    simp only [swS, List.length_nil]
    rw [rkN_0 h.rkl]
    omega
  | i + 1, hi => by
    have ih := sw_inv i (by omega)
    have hok := sw_ok h i (by omega)
    obtain ⟨h1, h2, h3⟩ := sw_pos h hok (by omega)
    have hl : (swS n sp i).1.length = n := by rw [hok.perm.length_eq, iotaL_len]
    rw [swS]
    split
    · exact ih
    · rename_i hne
      have hsw := rkN_swp h hok (by omega) hne
      have hhit := (rkN_hit h hok (by omega) h1).2 rfl
      simp only [List.length_append, List.length_cons, List.length_nil]
      rw [hsw]
      generalize hj : posI (swS n sp i).1 (sp.getD i 0) = j at *
      generalize hk : rkN rk (swS n sp i).1 = l at *
      have hll : l.length = n := by rw [← hk, rkN_len, hl]
      have hgt : ∀ p, i ≤ p → p < n → p ≠ j → (i : Int) < l.getD p 0 := fun p hp1 hp2 hp3 => by
        rw [← hk, rkN_get (by omega)]
        have hg := perm_rng hok.perm hp2
        obtain ⟨v, hv⟩ : ∃ v : Nat, (swS n sp i).1.getD p 0 = v := ⟨((swS n sp i).1.getD p 0).toNat, by omega⟩
        obtain ⟨r, hr1, hr2, hr3⟩ := h.sur (i := v) (by omega)
        rw [hv, Int.toNat_natCast, hr3]
        rcases Nat.lt_trichotomy r i with hlt | he | hgt
        · exfalso
          have hf := hok.fix r hlt
          have := perm_inj hok.perm hp2 (show r < n by omega) (by rw [hv, hf, hr2])
          omega
        · exfalso
          subst he
          have := perm_inj hok.perm hp2 h1 (by rw [hv, h3, hr2])
          omega
        · omega
      have e : (l.set j (l.getD i 0)).set i (i : Int) = swp l i j := by
        refine ext_getD (by simp [swp]) (fun p hp => ?_)
        rw [List.length_set, List.length_set] at hp
        rw [set_getD (by rw [List.length_set]; omega), set_getD (by omega), swp_get (by omega) (by omega)]
        by_cases e1 : p = i
        · rw [if_pos e1, if_neg (by omega), if_pos e1, hhit]
        · rw [if_neg e1]
          by_cases e2 : p = j
          · rw [if_pos e2, if_pos e2]
          · rw [if_neg e2, if_neg e2, if_neg e1]
      rw [e]
      have hij : i < j := by omega
      obtain ⟨P, M, R, e1, e2, e3, e4⟩ := swp_parts (l := l) hij (by omega)
      have hM : ∀ a ∈ M, l.getD j 0 < a := fun a ha => by
        obtain ⟨t, ht, rfl⟩ := List.getElem_of_mem ha
        have hq := hgt (i + 1 + t) (by omega) (by omega) (by omega)
        have hz : l.getD (i + 1 + t) 0 = M[t] := by
          rw [e1, List.getD, List.getElem?_append_right (by omega), e3, show i + 1 + t - i = t + 1 by omega, List.getElem?_cons_succ, List.getElem?_append_left ht, List.getElem?_eq_getElem ht]
          rfl
        rw [hhit, ← hz]; exact hq
      have hx : l.getD j 0 < l.getD i 0 := by rw [hhit]; exact hgt i (Nat.le_refl _) (by omega) (by omega)
      have := invL_swap (R := R) hx hM P
      rw [← e1, ← e2] at this
      omega
omit h in
theorem sw_none : ∀ i, i ≤ n → (swS n sp i).2 = [] → (swS n sp i).1 = iotaL n
  | 0, _, _ => rfl
  | i + 1, hi, he => by
    rw [swS] at he ⊢
    split at he
    · rename_i e; rw [if_pos e]; exact sw_none i (by omega) he
    · simp at he
theorem sw_last : (swS n sp n).1 = sp := ext_getD (by rw [(sw_ok h n (Nat.le_refl _)).perm.length_eq, iotaL_len, h.spl]) (fun j hj => (sw_ok h n (Nat.le_refl _)).fix j (by rw [(sw_ok h n (Nat.le_refl _)).perm.length_eq, iotaL_len] at hj; exact hj))
structure MvP (n i : Nat) (ms : List (Int × Int)) : Prop where
  b : ∀ m ∈ ms, 0 ≤ m.1 ∧ m.1 < m.2 ∧ m.2 < n ∧ m.1 < i
  up : ms.Pairwise (fun a b => a.1 < b.1)
theorem sw_mv : ∀ i, i ≤ n → MvP n i (swS n sp i).2
  | 0, _ => ⟨(fun m hm => by simp [swS] at hm), List.Pairwise.nil⟩
  | i + 1, hi => by
    have ih := sw_mv i (by omega)
    obtain ⟨h1, h2, h3⟩ := sw_pos h (sw_ok h i (by omega)) (by omega)
    rw [swS]
    split
    · exact ⟨fun m hm => by have := ih.b m hm; omega, ih.up⟩
    · rename_i hne
      refine ⟨fun m hm => ?_, ?_⟩
      · rcases List.mem_append.1 hm with hm | hm
        · have := ih.b m hm; omega
        · rw [List.mem_singleton] at hm
          subst hm
          dsimp only
          omega
      · refine List.pairwise_append.2 ⟨ih.up, List.pairwise_singleton _ _, fun a ha b hb => ?_⟩
        rw [List.mem_singleton] at hb
        subst hb
        exact (ih.b a ha).2.2.2
end
theorem swI_app (xs : List Bk) (ms ms' : List Mv) : ∀ i, i ≤ ms.length → swI xs (ms ++ ms') i = swI xs ms i
  | 0, _ => rfl
  | i + 1, hi => by
    rw [swI, swI, swI_app xs ms ms' i (by omega)]
    rw [show (ms ++ ms').getD i mv0 = ms.getD i mv0 by rw [List.getD, List.getD, List.getElem?_append_left (by omega)]]
theorem bkp_iota (xs : List Bk) : bkp xs (iotaL xs.length) = xs := by
  refine list_ext' (d := bk0) (by rw [bkp_len, iotaL_len]) (fun j hj => ?_)
  rw [bkp_len, iotaL_len] at hj
  rw [bkp_get _ _ (by rw [iotaL_len]; exact hj), iotaL_get hj, Int.toNat_natCast]
theorem bkp_swp (xs : List Bk) {ps : List Int} {i j : Nat} (hi : i < ps.length) (hj : j < ps.length) : bkp xs (swp ps i j) = swpB (bkp xs ps) i j := by
  unfold swp swpB
  rw [bkp_get _ _ hi, bkp_get _ _ hj, bkp_set, bkp_set]
theorem sw_books (xs : List Bk) : ∀ i, i ≤ xs.length → swI xs (swS xs.length (plcL xs) i).2 (swS xs.length (plcL xs) i).2.length = bkp xs (swS xs.length (plcL xs) i).1
  | 0, _ => (bkp_iota xs).symm
  | i + 1, hi => by
    have ih := sw_books xs i (by omega)
    have hok := sw_ok (inv_rk xs) i (by omega)
    obtain ⟨h1, h2, h3⟩ := sw_pos (inv_rk xs) hok (by omega)
    have hl : (swS xs.length (plcL xs) i).1.length = xs.length := by rw [hok.perm.length_eq, iotaL_len]
    rw [swS]
    split
    · exact ih
    · simp only [List.length_append, List.length_cons, List.length_nil, Nat.zero_add]
      rw [swI, swI_app _ _ _ _ (Nat.le_refl _), ih, bkp_swp xs (by omega) (by omega)]
      simp [List.getD]
theorem swI_srt (xs : List Bk) : swI xs (swL xs) (swL xs).length = srtB xs := by
  have h1 := sw_books xs xs.length (Nat.le_refl _)
  rw [sw_last (inv_rk xs)] at h1
  exact h1
theorem rk_lt (xs : List Bk) {i k : Nat} (hi : i < xs.length) (hk : k < i) : prB xs i k = decide ((rkL xs).getD i 0 < (rkL xs).getD k 0) := by
  have hIv := inv_rk xs
  obtain ⟨r, hr, hr2, hr3⟩ := hIv.sur hi
  obtain ⟨s, hs, hs2, hs3⟩ := hIv.sur (i := k) (by omega)
  have hpw := ipl_pw xs xs.length
  have key : ∀ a b, a < b → b < xs.length → ltC (cP xs) ((plcL xs).getD a 0) ((plcL xs).getD b 0) := fun a b hab hb => by
    have hl := plcL_len xs
    have := List.pairwise_iff_getElem.1 hpw a b (by rw [ipl_len]; omega) (by rw [ipl_len]; omega) hab
    simpa [ipl, plcL, List.getD, srt_len, iotaL_len, hb, show a < xs.length by omega] using this
  rw [hr3, hs3, Bool.eq_iff_iff, decide_eq_true_eq, prB, decide_eq_true_eq]
  have hne : r ≠ s := fun e => by subst e; omega
  have hcp : cP xs (i : Int) (k : Int) = cmpU (xs.getD i bk0) (xs.getD k bk0) := rfl
  constructor
  · intro hc
    rcases Nat.lt_or_ge r s with h1 | h1
    · omega
    · exfalso
      have h2 := key s r (by omega) hr
      rw [hr2, hs2] at h2
      exact ltC_asymm (ord_cP xs) h2 (.inl (by rw [hcp]; exact hc))
  · intro hc
    have h2 := key r s (by omega) hs
    rw [hr2, hs2] at h2
    rcases h2 with h2 | h2
    · rw [hcp] at h2; exact h2
    · omega
theorem prO_inv (xs : List Bk) : ∀ i, i ≤ xs.length → prO xs i = (invL ((rkL xs).take i) : Nat)
  | 0, _ => by simp [prO, invL]
  | i + 1, hi => by
    have hl : (rkL xs).length = xs.length := rkR_len xs xs.length
    rw [prO, prO_inv xs i (by omega), List.take_succ_eq_append_getElem (by omega), invL_ins _ [] _, List.append_nil, List.countP_nil]
    have e : cntF (prB xs i) i = (((rkL xs).take i).countP (fun a => decide ((rkL xs)[i]'(by omega) < a)) : Nat) := by
      rw [← cntF_list, List.length_take, Nat.min_eq_left (by omega)]
      refine cntF_congr _ (fun k hk => ?_)
      rw [rk_lt xs (by omega) hk]
      have e1 : (rkL xs).getD i 0 = (rkL xs)[i]'(by omega) := by simp [List.getD, show i < (rkL xs).length by omega]
      have e2 : ((rkL xs).take i).getD k 0 = (rkL xs).getD k 0 := by simp [List.getD, hk]
      rw [e1, e2]
    rw [e]
    omega
theorem prO_rk (xs : List Bk) : prO xs xs.length = (invL (rkL xs) : Nat) := by
  rw [prO_inv xs _ (Nat.le_refl _), List.take_of_length_le (by rw [rkR_len]; exact Nat.le_refl _)]
theorem sw_le (xs : List Bk) : ((swL xs).length : Int) ≤ prO xs xs.length := by
  have := sw_inv (inv_rk xs) xs.length (Nat.le_refl _)
  rw [prO_rk, swL]
  show (((swS xs.length (plcL xs) xs.length).2.length : Nat) : Int) ≤ _
  omega
theorem invL_iota : ∀ n, invL (iotaL n) = 0
  | 0 => rfl
  | n + 1 => by
    rw [iotaL_suc, invL_ins _ [] _, List.append_nil, invL_iota n, List.countP_nil, List.countP_eq_zero.2]
    intro a ha
    have := iotaL_mem ha
    simp; omega
theorem sw_zero (xs : List Bk) : (decide (((swL xs).length : Int) = 0) = decide (prO xs xs.length = 0)) := by
  have h1 := sw_le xs
  rw [Bool.eq_iff_iff, decide_eq_true_eq, decide_eq_true_eq]
  constructor
  · intro h0
    have hnil : swL xs = [] := List.eq_nil_of_length_eq_zero (by omega)
    have hIv := inv_rk xs
    have h2 := sw_none (n := xs.length) (sp := plcL xs) xs.length (Nat.le_refl _) hnil
    rw [sw_last hIv] at h2
    have hrl : (rkL xs).length = xs.length := rkR_len xs xs.length
    have h3 : rkL xs = iotaL xs.length := ext_getD (by rw [hrl, iotaL_len]) (fun j hj => by
      rw [hrl] at hj
      have := (hIv.eq hj hj).2 (by rw [h2, iotaL_get hj])
      rw [this, iotaL_get hj])
    rw [prO_rk, h3, invL_iota]
    rfl
  · intro h0
    omega
theorem sw_zero' (xs : List Bk) : (((swL xs).length : Int) == 0) = (prO xs xs.length == 0) := sw_zero xs
theorem sw_gt (xs : List Bk) : decide (((swL xs).length : Int) > prO xs xs.length) = false := by
  have := sw_le xs
  rw [decide_eq_false_iff_not]
  omega
theorem swL_mv (xs : List Bk) : MvP xs.length xs.length (swL xs) := sw_mv (inv_rk xs) _ (Nat.le_refl _)
theorem swL_get (xs : List Bk) {i : Nat} (hi : i < (swL xs).length) : 0 ≤ ((swL xs).getD i mv0).1 ∧ ((swL xs).getD i mv0).1 < ((swL xs).getD i mv0).2 ∧ ((swL xs).getD i mv0).2 < xs.length := by
  have := (swL_mv xs).b _ (getD_mem' (d := mv0) hi)
  exact ⟨this.1, this.2.1, this.2.2.1⟩
theorem swL_up (xs : List Bk) {i : Nat} (hi : i + 1 < (swL xs).length) : ((swL xs).getD i mv0).1 < ((swL xs).getD (i + 1) mv0).1 := by
  have := List.pairwise_iff_getElem.1 (swL_mv xs).up i (i + 1) (by omega) hi (by omega)
  simpa [List.getD, hi, show i < (swL xs).length by omega] using this
theorem swL_in (xs : List Bk) : (swL xs).all (mvIn ((xs.length : Int) - 1)) = true := by
  rw [List.all_eq_true]
  intro m hm
  have := (swL_mv xs).b m hm
  simp only [mvIn, Bool.and_eq_true, inI_iff]
  omega
end Go.Proofs.Ythdgihkffcmkiaa.Abs

