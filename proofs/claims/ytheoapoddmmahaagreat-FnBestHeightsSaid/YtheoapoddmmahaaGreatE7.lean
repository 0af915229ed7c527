import Derived.Test.YtheoapoddmmahaaGreatE6
set_option linter.unusedVariables false
set_option linter.unusedSimpArgs false
namespace Go.Proofs.YtheoapoddmmahaaGreat.Abs
open Go Go.RowKit

/-! ### A family of rows whose handles follow each other -/
theorem weak_lk {C : Ctx} {sl : List (Nat × D)} {hp hp' : HP} {nx : Nat} (e : ∀ k, lk k hp' = lk k hp) : Weak C ⟨sl, hp, nx⟩ ⟨sl, hp', nx⟩ := fun a w ⟨hv, hH, hk, hm, hpn, hS⟩ => by
  have eL : LOf hv hp' = LOf hv hp := by funext k; simp only [LOf, e]
  have eF : FOf C.G hv hp' w = FOf C.G hv hp w := by funext b; simp only [FOf, e]
  refine ⟨hv, ⟨fun k ob hl => ?_, fun k k' ob ob' hl hl' hne => ?_, fun k ob c hl hc => ?_, hH.keeps, hH.gnew⟩, fun k ob hl => ?_, hm, fun k ob hl hlt => ?_, ?_⟩
  · simp only at hl ⊢
    rw [eL, eF]
    exact hH.obs k ob (by rw [← e]; exact hl)
  · exact hH.inj k k' ob ob' (by rw [← e]; exact hl) (by rw [← e]; exact hl') hne
  · exact hH.base k ob c (by rw [← e]; exact hl) hc
  · exact hk k ob (by rw [← e]; exact hl)
  · exact hpn k ob (by rw [← e]; exact hl) hlt
  · simp only at hS ⊢
    rw [eL, eF]
    exact hS
def famR (f : Nat → List Int) (E : TypeId) : Nat → Nat → HP
  | _, 0 => []
  | c, n + 1 => (c + 30, ⟨E, 1, false, i64s (f c)⟩) :: famR f E (c + 1) n
theorem lk_famR (f : Nat → List Int) (E : TypeId) : ∀ (n c k : Nat), lk k (famR f E c n) = if c + 30 ≤ k ∧ k < c + 30 + n then some ⟨E, 1, false, i64s (f (k - 30))⟩ else none
  | 0, c, k => by rw [famR, if_neg (by omega)]; rfl
  | n + 1, c, k => by
    rw [famR, lk_cons, lk_famR f E n (c + 1) k]
    by_cases h : k = c + 30
    · subst h
      rw [if_pos rfl, if_pos (by omega), Nat.add_sub_cancel]
    · rw [if_neg h]
      by_cases h2 : c + 30 ≤ k ∧ k < c + 30 + (n + 1)
      · rw [if_pos h2, if_pos (by omega)]
      · rw [if_neg h2, if_neg (by omega)]
theorem all_famR (f : Nat → List Int) (E : TypeId) {x : Nat} : ∀ (n c : Nat), c + 30 + n ≤ x → (famR f E c n).all (fun p => decide (p.1 < x)) = true
  | 0, _, _ => rfl
  | n + 1, c, h => by
    rw [famR, List.all_cons, all_famR f E n (c + 1) (by omega)]
    simp
    omega
theorem kill_fam (f : Nat → List Int) (E : TypeId) (h : Nat) : ∀ (n c : Nat), killHP h (famR f E c n) = famR f E c n
  | 0, _ => rfl
  | n + 1, c => by
    have := kill_fam f E h n (c + 1)
    simp only [killHP] at this
    simp only [famR, killHP, List.map_cons, this]
    rfl
theorem frz_fam (f : Nat → List Int) (E : TypeId) (h sz : Nat) (ys : List (List D)) : ∀ (n c : Nat), (h < c + 30 ∨ c + 30 + n ≤ h) → frzHP h sz ys (famR f E c n) = famR f E c n
  | 0, _, _ => rfl
  | n + 1, c, hh => by
    rw [famR, frzHP, if_neg (by omega), frz_fam f E h sz ys n (c + 1) (by omega)]
    rfl
def hI (c : Nat) : Nat → D := fun j => if j < c then .own (j + 30) else .nil
def hK (c : Nat) (d : D) : Nat → D := fun j => if j < c then .own (j + 30) else if j = c then d else .nil
def uO (F : Nat → List Int) (c : Nat) : Nat → D := fun j => if j < c then .sl 1 (i64s (F j)) else .own (j + 30)
def uK (F : Nat → List Int) (c : Nat) (d : D) : Nat → D := fun j => if j < c then .sl 1 (i64s (F j)) else if j = c then d else .own (j + 30)
theorem hI_zero (n : Nat) : List.replicate n [D.nil] = tabD (hI 0) n := by
  rw [tabD_rep]
  exact tabD_congr (fun j _ => by simp [hI])
theorem hI_set (c n : Nat) (d : D) : (tabD (hI c) n).set c [d] = tabD (hK c d) n := by
  rw [tabD_set]
  exact tabD_congr (fun j _ => by
    unfold hI hK
    by_cases h : j = c
    · subst h; simp
    · simp [h])
theorem hK_cur (d : D) {c n : Nat} (h : c < n) : (tabD (hK c d) n)[c]? = some [d] := by
  rw [tabD_get _ h]
  simp [hK]
theorem uK_cur (F : Nat → List Int) (d : D) {c n : Nat} (h : c < n) : (tabD (uK F c d) n)[c]? = some [d] := by
  rw [tabD_get _ h]
  simp [uK]
theorem uK_old (F : Nat → List Int) (d : D) {c n j : Nat} (h : c < n) (hj : j < c) : (tabD (uK F c d) n)[j]? = some [.sl 1 (i64s (F j))] := by
  rw [tabD_get _ (by omega)]
  simp [uK, hj]
theorem sw_tab (a b : Nat) (g : Nat → D) (n : Nat) (E : TypeId) : swO a b ⟨E, 1, true, tabD g n⟩ = ⟨E, 1, true, tabD (fun j => swC a b (g j)) n⟩ := by
  simp only [swO, if_pos, tabD_map]
theorem weak_fold {C : Ctx} {f : Nat → List Int} {E TE : TypeId} {n c : Nat} {sl : List (Nat × D)} (hc : c < 7) (hm : C.m ≤ 30) (hsl : swSl 50 (c + 30) sl = sl) :
    Weak C ⟨sl, (50, ⟨E, 1, false, i64s (f c)⟩) :: (0, ⟨TE, 1, true, tabD (hK c (.own 50)) n⟩) :: famR f E 0 c, 51⟩ ⟨sl, (0, ⟨TE, 1, true, tabD (hI (c + 1)) n⟩) :: famR f E 0 (c + 1), 50⟩ := by
  have h0 := weak_swap (C := C) 50 (c + 30) (sl := sl) (hp := (50, ⟨E, 1, false, i64s (f c)⟩) :: (0, ⟨TE, 1, true, tabD (hK c (.own 50)) n⟩) :: famR f E 0 c) (nx := 51) (by omega) (by omega) (by omega) (by omega)
  rw [hsl] at h0
  refine h0.trans (Weak.trans (weak_lk (hp' := (0, ⟨TE, 1, true, tabD (hI (c + 1)) n⟩) :: famR f E 0 (c + 1)) fun k => ?_) (weak_nx (by omega) (by rw [List.all_cons, all_famR _ _ _ _ (by omega)]; rfl)))
  rw [lk_swHP]
  simp only [lk_cons, lk_famR]
  by_cases h1 : k = 0
  · subst h1
    rw [if_pos rfl, show swN 50 (c + 30) 0 = 0 by simp [swN], if_neg (by omega), if_pos rfl, Option.map_some, sw_tab]
    congr 2
    refine tabD_congr (fun j _ => ?_)
    unfold hI hK
    by_cases h2 : j < c
    · rw [if_pos (by omega), if_pos h2]
      simp [swC, swN, show j + 30 ≠ 50 by omega, show j ≠ c by omega]
    · by_cases h3 : j = c
      · subst h3; rw [if_pos (by omega), if_neg h2, if_pos rfl]; simp [swC, swN]
      · rw [if_neg (by omega), if_neg h2, if_neg h3]; rfl
  · rw [if_neg h1]
    by_cases h2 : k = c + 30
    · subst h2
      rw [if_pos (by omega), show swN 50 (c + 30) (c + 30) = 50 by unfold swN; rw [if_neg (by omega), if_pos rfl], if_pos rfl, Option.map_some, Nat.add_sub_cancel]
      rfl
    · by_cases h3 : k = 50
      · subst h3
        rw [if_neg (by omega), show swN 50 (c + 30) 50 = c + 30 by simp [swN], if_neg (by omega), if_neg (by omega), if_neg (by omega)]
        rfl
      · rw [show swN 50 (c + 30) k = k by unfold swN; rw [if_neg h3, if_neg h2], if_neg h3, if_neg h1]
        by_cases h4 : 0 + 30 ≤ k ∧ k < 0 + 30 + c
        · rw [if_pos (by omega), if_pos h4]; rfl
        · rw [if_neg (by omega), if_neg h4]; rfl
theorem weak_unf {C : Ctx} {f F : Nat → List Int} {E TE : TypeId} {n c k h : Nat} {sl : List (Nat × D)} {X : HP} (hh : 49 < h) (hn : n ≤ 20) (hc : c + 30 + (k + 1) ≤ 50) (hm : C.m ≤ 30) (hX : ∀ q, q < 50 ∨ q = h → lk q X = none) (hXd : ∀ q o, lk q X = some o → o.deep = false) (hXn : X.all (fun p => decide (p.1 < h)) = true) (hsl : swSl h (c + 30) sl = sl) :
    Weak C ⟨sl, X ++ (0, ⟨TE, 1, true, tabD (uO F c) n⟩) :: famR f E c (k + 1), h⟩ ⟨sl, (h, ⟨E, 1, false, i64s (f c)⟩) :: (X ++ (0, ⟨TE, 1, true, tabD (uK F c (.own h)) n⟩) :: famR f E (c + 1) k), h + 1⟩ := by
  have hall : (X ++ (0, (⟨TE, 1, true, tabD (uO F c) n⟩ : Ob)) :: famR f E c (k + 1)).all (fun p => decide (p.1 < h + 1)) = true := by
    rw [List.all_append, List.all_cons, all_famR _ _ _ _ (by omega)]
    simp only [Bool.and_true, Bool.and_eq_true, decide_eq_true_eq]
    refine ⟨List.all_eq_true.2 fun p hp => ?_, by omega⟩
    have := List.all_eq_true.1 hXn p hp
    simp only [decide_eq_true_eq] at this ⊢
    omega
  have h0 := weak_swap (C := C) h (c + 30) (sl := sl) (hp := X ++ (0, ⟨TE, 1, true, tabD (uO F c) n⟩) :: famR f E c (k + 1)) (nx := h + 1) (by omega) (by omega) (by omega) (by omega)
  rw [hsl] at h0
  refine Weak.trans (weak_nx (nx' := h + 1) (by omega) hall) (h0.trans (weak_lk fun q => ?_))
  rw [lk_swHP]
  simp only [lk_append, lk_cons, lk_famR]
  by_cases h1 : q = h
  · subst h1
    rw [if_pos rfl, show swN q (c + 30) q = c + 30 by simp [swN], hX _ (.inl (by omega)), Option.none_or, if_neg (by omega), if_pos (by omega), Option.map_some, Nat.add_sub_cancel]
    rfl
  · rw [if_neg h1]
    by_cases h2 : q = c + 30
    · subst h2
      rw [show swN h (c + 30) (c + 30) = h by unfold swN; rw [if_neg h1, if_pos rfl], hX _ (.inl (by omega)), hX h (.inr rfl), Option.none_or, Option.none_or, if_neg (by omega), if_neg (by omega), if_neg (by omega), if_neg (by omega)]
      rfl
    · rw [show swN h (c + 30) q = q by unfold swN; rw [if_neg h1, if_neg h2]]
      cases hx : lk q X with
      | some o =>
        simp only [Option.some_or, Option.map_some]
        have := hXd q o hx
        simp [swO, this]
      | none =>
        simp only [Option.none_or]
        by_cases h3 : q = 0
        · subst h3
          rw [if_pos rfl, if_pos rfl, Option.map_some, sw_tab]
          congr 2
          refine tabD_congr (fun j hj => ?_)
          unfold uO uK
          by_cases h4 : j < c
          · rw [if_pos h4, if_pos h4]; rfl
          · rw [if_neg h4, if_neg h4]
            by_cases h5 : j = c
            · subst h5; rw [if_pos rfl]; simp only [swC, swN]; rw [if_neg (by omega)]; simp
            · rw [if_neg h5]
              simp only [swC, swN]
              rw [if_neg (by omega), if_neg (by omega)]
        · rw [if_neg h3, if_neg h3]
          by_cases h4 : c + 30 ≤ q ∧ q < c + 30 + (k + 1)
          · rw [if_pos h4, if_pos (by omega)]; rfl
          · rw [if_neg h4, if_neg (by omega)]; rfl
theorem weak_fin2 {C : Ctx} {f F : Nat → List Int} {E TE : TypeId} {n c k h nx : Nat} {sl : List (Nat × D)} {X : HP} {r : List Int} (hS0 : C.S = []) (hG : ∀ b, C.w0.heap.size ≤ b → C.G b) (hh : 49 < h) (hn : n ≤ 20) (hc : c + 1 + 30 + k ≤ 50) (hm : C.m ≤ 30) (hX : frzHP h 1 (i64s r) X = X) (hXn : X.all (fun p => decide (p.1 < h)) = true) (hr : F c = r) (hsl : frzSl h 1 (i64s r) sl = sl) :
    Weak C ⟨sl, (h, ⟨E, 1, false, i64s r⟩) :: (X ++ (0, ⟨TE, 1, true, tabD (uK F c (.own h)) n⟩) :: famR f E (c + 1) k), nx⟩ ⟨sl, X ++ (0, ⟨TE, 1, true, tabD (uO F (c + 1)) n⟩) :: famR f E (c + 1) k, h⟩ := by
  have e : tabD (uO F (c + 1)) n = (tabD (uK F c (.own h)) n).map (·.map (frzC h 1 (i64s r))) := by
    rw [tabD_map]
    refine tabD_congr (fun j hj => ?_)
    unfold uO uK
    by_cases h1 : j < c
    · rw [if_pos h1, if_pos (by omega)]; rfl
    · by_cases h2 : j = c
      · subst h2; rw [if_neg h1, if_pos (by omega), if_pos rfl, hr]; simp [frzC]
      · rw [if_neg h1, if_neg h2, if_neg (by omega)]
        simp only [frzC]
        rw [if_neg (by omega)]
  have h0 := weak_frz (C := C) (nx := nx) (sl := sl) h (hp := (h, ⟨E, 1, false, i64s r⟩) :: (X ++ (0, ⟨TE, 1, true, tabD (uK F c (.own h)) n⟩) :: famR f E (c + 1) k)) hS0 hG (by rw [lk_cons, if_pos rfl]) (.inl rfl)
  have app : ∀ (l l' : HP), frzHP h 1 (i64s r) (l ++ l') = frzHP h 1 (i64s r) l ++ frzHP h 1 (i64s r) l' := by
    intro l
    induction l with
    | nil => intro l'; rfl
    | cons p l ih =>
      intro l'
      obtain ⟨q, o⟩ := p
      simp only [List.cons_append, frzHP, ih]
      split
      · rfl
      · rfl
  rw [show frzHP h (⟨E, 1, false, i64s r⟩ : Ob).sz (⟨E, 1, false, i64s r⟩ : Ob).xs ((h, ⟨E, 1, false, i64s r⟩) :: (X ++ (0, ⟨TE, 1, true, tabD (uK F c (.own h)) n⟩) :: famR f E (c + 1) k)) = X ++ (0, ⟨TE, 1, true, tabD (uO F (c + 1)) n⟩) :: famR f E (c + 1) k by
    show frzHP h 1 (i64s r) _ = _
    rw [frzHP, if_pos rfl, app, hX, frzHP, if_neg (by omega), frz_fam _ _ _ _ _ _ _ (.inr (by omega)), e]
    rfl] at h0
  rw [show frzSl h (⟨E, 1, false, i64s r⟩ : Ob).sz (⟨E, 1, false, i64s r⟩ : Ob).xs sl = sl from hsl] at h0
  refine h0.trans (weak_nx (by omega) ?_)
  rw [List.all_append, List.all_cons, all_famR _ _ _ _ (by omega), hXn]
  simp only [Bool.and_true, Bool.true_and, decide_eq_true_eq]
  omega
theorem kill_uO (F : Nat → List Int) (c : Nat) {n : Nat} (hn : n ≤ 20) : (tabD (uO F c) n).map (fun x => x.map (killC 50)) = tabD (uO F c) n := by
  rw [tabD_map]
  refine tabD_congr (fun j hj => ?_)
  unfold uO
  split
  · rfl
  · simp only [killC]; rw [if_neg (by omega)]
theorem uO_end (F : Nat → List Int) (n : Nat) : tabD (uO F n) n = tabD (gI F n) n := tabD_congr (fun j hj => by unfold uO gI; rw [if_pos hj, if_pos hj])
theorem uO_start (F : Nat → List Int) (n : Nat) : tabD (hI n) n = tabD (uO F 0) n := tabD_congr (fun j hj => by unfold uO hI; rw [if_pos hj, if_neg (by omega)])
/-! ### Rows with -1 for none -/
abbrev rowM (m : Nat) (_ : Nat) : List Int := tabI (fun _ => -1) (m + 1)
def rowS (W : Nat → Nat → Int) (m c a : Nat) : Nat → Int := fun q => if q < a then FS W m c q else -1
def rowP (a : Nat) : Nat → Int := fun q => if q < a then -1 else 0
abbrev rowG (W : Nat → Nat → Int) (m : Nat) (k : Nat) : List Int := tabI (FS W m k) (m + 1)
theorem rowP_zero (m : Nat) : tabI (rowP 0) (m + 1) = List.replicate (m + 1) 0 := by
  rw [tabI_rep]
  exact tabI_congr (fun q _ => by unfold rowP; rw [if_neg (by omega)])
theorem i64s_rep0 (n : Nat) (v : Int) : i64s (List.replicate n v) = List.replicate n [D.val (.int .i64 v)] := by simp
theorem rowP_set (m a : Nat) : (i64s (tabI (rowP a) (m + 1))).set a [.val (.int .i64 (-1))] = i64s (tabI (rowP (a + 1)) (m + 1)) := by
  rw [tabI_set]
  rw [tabI_congr (g' := rowP (a + 1)) (fun q _ => by
    unfold updN rowP
    by_cases h : q = a
    · subst h; rw [if_pos rfl, if_pos (by omega)]
    · rw [if_neg h]
      by_cases h2 : q < a
      · rw [if_pos h2, if_pos (by omega)]
      · rw [if_neg h2, if_neg (by omega)])]
theorem rowP_all (m c : Nat) : tabI (rowP (m + 1)) (m + 1) = rowM m c := tabI_congr (fun q hq => by unfold rowP; rw [if_pos hq])
theorem rowG_zero {W : Nat → Nat → Int} {m : Nat} : (i64s (rowM m 0)).set m [.val (.int .i64 0)] = i64s (rowG W m 0) := by
  rw [tabI_set]
  rw [tabI_congr (g' := FS W m 0) (fun q hq => by unfold updN; rw [FS])]
theorem rowS_first {W : Nat → Nat → Int} {m c : Nat} : rowM m c = tabI (rowS W m c 0) (m + 1) := tabI_congr (fun q hq => by unfold rowS; rw [if_neg (by omega)])
theorem rowS_self {W : Nat → Nat → Int} {m c a : Nat} : rowS W m (c + 1) a = updN (rowS W m (c + 1) a) a (mnS (W a) (FS W m c) (a + 1) 0) := by
  funext q
  unfold updN rowS
  by_cases h : q = a
  · subst h; rw [if_neg (by omega), if_pos rfl]; rfl
  · rw [if_neg h]
theorem rowS_next {W : Nat → Nat → Int} {m c a : Nat} : tabI (updN (rowS W m (c + 1) a) a (mnS (W a) (FS W m c) (a + 1) (m - a))) (m + 1) = tabI (rowS W m (c + 1) (a + 1)) (m + 1) := by
  refine tabI_congr (fun q hq => ?_)
  unfold updN rowS
  by_cases h1 : q = a
  · subst h1; rw [if_pos rfl, if_pos (by omega)]; rfl
  · rw [if_neg h1]
    by_cases h2 : q < a
    · rw [if_pos h2, if_pos (by omega)]
    · rw [if_neg h2, if_neg (by omega)]
theorem rowS_end {W : Nat → Nat → Int} {m c : Nat} : tabI (rowS W m (c + 1) m) (m + 1) = rowG W m (c + 1) := tabI_congr (fun q hq => by
  unfold rowS
  by_cases h : q < m
  · rw [if_pos h]
  · rw [if_neg h]
    obtain rfl : q = m := by omega
    rw [FS, Nat.sub_self]
    rfl)
theorem trS_hit {W : Nat → Nat → Int} {m k a j : Nat} (h1 : ∀ q, a + 1 ≤ q → q < j → cS W m k a q = false) (h2 : cS W m k a j = true) (h3 : a < j) (h4 : j ≤ m) : trS W m (k + 1) a = j :: trS W m k j := by
  have e := fj_at (s := m - a) h1 h2 (by omega) (by omega)
  rw [trS, e, if_pos h4]
theorem trS_miss {W : Nat → Nat → Int} {m k a : Nat} (ha : a ≤ m) (h1 : ∀ q, a + 1 ≤ q → q < m + 1 → cS W m k a q = false) : trS W m (k + 1) a = trS W m k a := by
  have e := fj_none (s := m - a) (j := a + 1) (fun q h2 h3 => h1 q h2 (by omega))
  rw [trS, e, if_neg (by omega)]
noncomputable def bestLS (hs : List Int) (bs : List Bk) (cn : Nat) : List Int := (trS (wF bs (0 :: hs)) hs.length cn 0).map (fun j => (0 :: hs).getD j 0)

theorem uO_hf (F : Nat → List Int) (n : Nat) : ∀ x ∈ tabD (uO F n) n, x.all hf = true := by rw [uO_end]; exact gI_hf F n n

noncomputable abbrev s_S_l04Best : Spec (List Int × List Bk × Nat) where
  args := fun x => [.sl 1 (i64s x.1), .sl 8 (bks x.2.1), .val (.int .i64 ((x.2.2 : Nat) : Int))]
  pre := fun x => (okAl (0 :: x.1) ∧ (∀ b ∈ x.2.1, isBk b) ∧ (∀ b ∈ x.2.1, okB2 b) ∧ x.2.1.length ≤ 60) ∧ 1 ≤ x.2.2 ∧ x.2.2 ≤ 6 ∧ x.1.length ≤ 1000
  new := fun x => [⟨2, 1, false, i64s (bestLS x.1 x.2.1 x.2.2)⟩]
  res := fun x => .tup [.own 0, .val (.int .i64 (FS (wF x.2.1 (0 :: x.1)) x.1.length x.2.2 0))]

set_option maxRecDepth 20000 in
set_option maxHeartbeats 16000000 in
theorem ok_S_l04Best : FnOk Pr 34 s_S_l04Best := by
 refine fn_ok0 3 T0_ok Go.Proofs.Tryz.func34 rfl (enters_of Go.Proofs.Tryz.func34 rfl rfl) (fun _ => rfl) (fun _ => rfl) (fun _ => rfl) ?_
 rintro ⟨hs, bs, cn⟩ ⟨⟨hal, hv, ho, hl⟩, hcn1, hcn6, hhl⟩ C hP hN hm hG hS0
 change awp C _ _ ⟨[(0, .sl 1 (i64s hs)), (1, .sl 8 (bks bs)), (2, .val (.int .i64 (cn : Nat)))], [], 0⟩
 simp only at hal hv ho hl hcn1 hcn6 hhl
 have hWW : ∀ i j, 0 ≤ (wF bs (0 :: hs)) i j ∧ (wF bs (0 :: hs)) i j ≤ 6000000 := fun i j => wF_b ho hl hal i j
 refine awp_seq ?_
 refine r1 T0_ok hP hm hN ?_
 iterate 2 refine g1 ?_
 refine awp_seq ?_
 refine r1 T0_ok hP hm hN ?_
 iterate 3 refine g1 ?_
 refine awp_seq ?_
 refine r1 T0_ok hP hm hN ?_
 iterate 2 refine g1 ?_
 refine g1 ?_ (hst := by simp +decide (disch := omega) only [nrm, lk_nrm, dc_nrm, mk_nrm, mf_nrm, ti_nrm, ls_nrm, mp_nrm, nb_nrm, hset, pick_and, pick_or, ↓reduceIte, Nat.reduceAdd, wI64, wI32, wI16, wI8, wU8, List.length_map, Int.toNat_natCast, xn1, xn2, toNatS]; rfl)
 refine g1 ?_
 refine awp_seq ?_
 refine awp_seq ?_
 refine r1 T0_ok hP hm hN ?_
 refine g1 ?_
 refine awp_block ?_
 refine awp_loop (fun n st => ∃ c : Nat, c ≤ (cn + 1) ∧ n = (cn + 1) - c ∧ st = ⟨[(10, .val (.int .i64 (c : Nat))), (9, .own 0), (8, .val (.int .i64 (hs.length : Nat))), (0, .sl 1 (i64s hs)), (1, .sl 8 (bks bs)), (2, .val (.int .i64 (cn : Nat)))], ((0, ⟨31, 1, true, tabD (hI c) (cn + 1)⟩) :: famR (rowM hs.length) 2 0 c), 50⟩) ((cn + 1)) ⟨_, (by rw [← hI_zero]; exact Weak.trans (weak_deep 0 true rfl (fun h => by cases h)) (Weak.trans (weak_nx (nx' := 50) (by omega) (by rfl)) (weak_sl (sub_cons rfl (sub_cons rfl (sub_cons rfl (sub_cons rfl (sub_cons rfl (sub_cons rfl (sub_nil)))))))))), 0, by omega, rfl, rfl⟩ ?_
 rintro n st ⟨c, hic, hnc, rfl⟩
 refine awp_seq ?_
 refine awp_seq ?_
 refine r1 T0_ok hP hm hN ?_
 iterate 3 refine g1 ?_
 refine awp_cond rfl (fun hc0 => ?_) (fun hc0 => ?_)
 ·
  have hltc : c < cn + 1 := by simp only [decide_eq_true_eq] at hc0; omega
  refine awp_skip ?_
  refine awp_seq ?_
  refine awp_block ?_
  refine awp_seq ?_
  refine r1 T0_ok hP hm hN ?_
  iterate 4 refine g1 ?_
  refine g1 ?_ (hst := by simp +decide (disch := omega) only [nrm, lk_nrm, dc_nrm, mk_nrm, mf_nrm, ti_nrm, ls_nrm, mp_nrm, nb_nrm, hset, pick_and, pick_or, ↓reduceIte, Nat.reduceAdd, wI64, wI32, wI16, wI8, wU8, List.length_map, Int.toNat_natCast, xn1, xn2, toNatS]; rfl)
  refine g1 ?_ (hpre := by exact ⟨rfl, by omega, by (try simp only [tabD_len, tabI_len, List.length_map, List.length_cons, List.length_set, List.length_replicate]); omega⟩)
  refine g1 ?_ (hs := by exact astep_store_p (by rfl) (by rfl) (by rfl) (by rfl) (by exact tabD_get _ (by omega)))
  refine awp_seq ?_
  refine awp_weak (show Weak C _ ⟨[(10, .val (.int .i64 (c : Nat))), (9, .own 0), (8, .val (.int .i64 (hs.length : Nat))), (0, .sl 1 (i64s hs)), (1, .sl 8 (bks bs)), (2, .val (.int .i64 (cn : Nat)))], (50, ⟨2, 1, false, i64s (List.replicate (hs.length + 1) 0)⟩) :: (0, ⟨31, 1, true, tabD (hK c (.own 50)) (cn + 1)⟩) :: famR (rowM hs.length) 2 0 c, 51⟩ from by rw [i64s_rep0, ← hI_set]; exact weak_sl (sub_cons rfl (sub_cons rfl (sub_cons rfl (sub_cons rfl (sub_cons rfl (sub_cons rfl (sub_nil)))))))) ?_
  refine r1 T0_ok hP hm hN ?_
  refine g1 ?_
  refine awp_block ?_
  refine awp_loop (fun n st => ∃ i : Nat, i ≤ (hs.length + 1) ∧ n = (hs.length + 1) - i ∧ st = ⟨[(11, .val (.int .i64 (i : Nat))), (10, .val (.int .i64 (c : Nat))), (9, .own 0), (8, .val (.int .i64 (hs.length : Nat))), (0, .sl 1 (i64s hs)), (1, .sl 8 (bks bs)), (2, .val (.int .i64 (cn : Nat)))], ((50, ⟨2, 1, false, i64s (tabI (rowP i) (hs.length + 1))⟩) :: (0, ⟨31, 1, true, tabD (hK c (.own 50)) (cn + 1)⟩) :: famR (rowM hs.length) 2 0 c), 51⟩) ((hs.length + 1)) ⟨_, (by rw [rowP_zero]; exact weak_sl (sub_cons rfl (sub_cons rfl (sub_cons rfl (sub_cons rfl (sub_cons rfl (sub_cons rfl (sub_cons rfl (sub_nil))))))))), 0, by omega, rfl, rfl⟩ ?_
  rintro n st ⟨i, hii, hni, rfl⟩
  refine awp_seq ?_
  refine awp_seq ?_
  refine r1 T0_ok hP hm hN ?_
  iterate 3 refine g1 ?_
  refine awp_cond rfl (fun hc1 => ?_) (fun hc1 => ?_)
  ·
   have hlti : i < (hs.length + 1) := by simp only [decide_eq_true_eq] at hc1; omega
   refine awp_skip ?_
   refine awp_seq ?_
   refine awp_block ?_
   refine r1 T0_ok hP hm hN ?_
   iterate 2 refine g1 ?_
   refine g1 ?_ (hpre := by exact ⟨rfl, by omega, by (try simp only [tabD_len, tabI_len, List.length_map, List.length_cons, List.length_set, List.length_replicate]); omega⟩)
   refine g1 ?_ (hs := by first | rfl | exact astep_load_p (by rfl) (by rfl) (by rfl) (by exact (hK_cur (.own 50) (show c < cn + 1 by omega))) (by rfl))
   refine g1 ?_
   refine g1 ?_ (hpre := by exact ⟨rfl, by omega, by (try simp only [tabD_len, tabI_len, List.length_map, List.length_cons, List.length_set, List.length_replicate]); omega⟩)
   refine g1 ?_ (hs := by exact astep_store_p (by rfl) (by rfl) (by rfl) (by rfl) (by exact tabI_get _ (by omega)))
   refine r1 T0_ok hP hm hN ?_
   iterate 3 refine g1 ?_
   refine ⟨(hs.length + 1) - (i + 1), _, by omega, (by rw [← rowP_set]; exact weak_sl (sub_cons rfl (sub_cons rfl (sub_cons rfl (sub_cons rfl (sub_cons rfl (sub_cons rfl (sub_cons rfl (sub_nil))))))))), i + 1, by omega, rfl, rfl⟩
  ·
   have hgei : ¬ (i < (hs.length + 1)) := by simp only [decide_eq_false_iff_not] at hc1; omega
   obtain rfl : i = (hs.length + 1) := by omega
   rw [rowP_all _ c]
   refine awp_exit ?_
   repeat refine thenA_exit ?_
   refine blockA_hit ?_
   refine r1 T0_ok hP hm hN ?_
   iterate 3 refine g1 ?_
   refine ⟨cn + 1 - (c + 1), _, by omega, ?_, c + 1, by omega, rfl, rfl⟩
   exact Weak.trans (weak_sl (sub_cons rfl (sub_cons rfl (sub_cons rfl (sub_cons rfl (sub_cons rfl (sub_cons rfl (sub_nil)))))))) (weak_fold (by omega) (by omega) (by simp [swSl, swD, swA, swC, swN]))
 ·
  have hgec : ¬ (c < cn + 1) := by simp only [decide_eq_false_iff_not] at hc0; omega
  obtain rfl : c = cn + 1 := by omega
  refine awp_exit ?_
  repeat refine thenA_exit ?_
  refine blockA_hit ?_
  refine awp_seq ?_
  refine awp_weak (show Weak C _ ⟨[(9, .own 0), (8, .val (.int .i64 (hs.length : Nat))), (0, .sl 1 (i64s hs)), (1, .sl 8 (bks bs)), (2, .val (.int .i64 (cn : Nat)))], (50, ⟨2, 1, false, i64s (rowM hs.length 0)⟩) :: ([] ++ (0, ⟨31, 1, true, tabD (uK (rowG (wF bs (0 :: hs)) hs.length) 0 (.own 50)) (cn + 1)⟩) :: famR (rowM hs.length) 2 (0 + 1) cn), 51⟩ from by
    refine Weak.trans (show Weak C _ ⟨[(9, .own 0), (8, .val (.int .i64 (hs.length : Nat))), (0, .sl 1 (i64s hs)), (1, .sl 8 (bks bs)), (2, .val (.int .i64 (cn : Nat)))], _, _⟩ from weak_sl (sub_cons rfl (sub_cons rfl (sub_cons rfl (sub_cons rfl (sub_cons rfl (sub_nil))))))) ?_
    rw [uO_start (rowG (wF bs (0 :: hs)) hs.length)]
    exact weak_unf (X := []) (by omega) (by omega) (by omega) (by omega) (fun _ _ => rfl) (fun _ _ h => by cases h) rfl (by simp [swSl, swD, swA, swC, swN])) ?_
  have hT0 := uK_cur (rowG (wF bs (0 :: hs)) hs.length) (.own 50) (show 0 < cn + 1 by omega)
  refine r1 T0_ok hP hm hN ?_
  refine g1 ?_
  refine g1 ?_ (hpre := by exact ⟨rfl, by omega, by (try simp only [tabD_len, tabI_len, List.length_map, List.length_cons, List.length_set, List.length_replicate]); omega⟩)
  refine g1 ?_ (hs := by first | rfl | exact astep_load_p (by rfl) (by rfl) (by rfl) (by exact hT0) (by rfl))
  refine g1 ?_
  refine g1 ?_ (hpre := by exact ⟨rfl, by omega, by (try simp only [tabD_len, tabI_len, List.length_map, List.length_cons, List.length_set, List.length_replicate]); omega⟩)
  refine g1 ?_ (hs := by exact astep_store_p (by rfl) (by rfl) (by rfl) (by rfl) (by exact tabI_get _ (by omega))) (hst := by simp +decide (disch := omega) only [nrm, lk_nrm, dc_nrm, mk_nrm, mf_nrm, ti_nrm, ls_nrm, mp_nrm, nb_nrm, hset, pick_and, pick_or, ↓reduceIte, Nat.reduceAdd, wI64, wI32, wI16, wI8, wU8, List.length_map, Int.toNat_natCast, xn1, xn2, rowG_zero (W := (wF bs (0 :: hs)))]; rfl)
  refine awp_seq ?_
  refine awp_weak (show Weak C _ ⟨[(9, .own 0), (8, .val (.int .i64 (hs.length : Nat))), (0, .sl 1 (i64s hs)), (1, .sl 8 (bks bs)), (2, .val (.int .i64 (cn : Nat)))], [] ++ (0, ⟨31, 1, true, tabD (uO (rowG (wF bs (0 :: hs)) hs.length) (0 + 1)) (cn + 1)⟩) :: famR (rowM hs.length) 2 (0 + 1) cn, 50⟩ from by
    rw [List.nil_append]
    exact Weak.trans (show Weak C _ ⟨[(9, .own 0), (8, .val (.int .i64 (hs.length : Nat))), (0, .sl 1 (i64s hs)), (1, .sl 8 (bks bs)), (2, .val (.int .i64 (cn : Nat)))], _, _⟩ from weak_sl (sub_cons rfl (sub_cons rfl (sub_cons rfl (sub_cons rfl (sub_cons rfl (sub_nil))))))) (weak_fin2 (X := []) hS0 hG (by omega) (by omega) (by omega) (by omega) rfl rfl rfl rfl)) ?_
  refine r1 T0_ok hP hm hN ?_
  iterate 2 refine g1 ?_
  refine ga1 ?_
  refine g1 ?_
  refine awp_seq ?_
  refine awp_seq ?_
  refine awp_weak (show Weak C _ ⟨[(12, .own 50), (9, .own 0), (8, .val (.int .i64 (hs.length : Nat))), (0, .sl 1 (i64s hs)), (1, .sl 8 (bks bs)), (2, .val (.int .i64 (cn : Nat)))], (50, ⟨2, 1, false, i64s ((0 :: hs))⟩) :: (0, ⟨31, 1, true, tabD (uO (rowG (wF bs (0 :: hs)) hs.length) (0 + 1)) (cn + 1)⟩) :: famR (rowM hs.length) 2 (0 + 1) cn, 51⟩ from by
    have hku := kill_uO (rowG (wF bs (0 :: hs)) hs.length) 1 (n := cn + 1) (by omega)
    simp only [kill_fam, hku]
    exact weak_sl (sub_cons rfl (sub_cons rfl (sub_cons rfl (sub_cons rfl (sub_cons rfl (sub_cons rfl (sub_nil)))))))) ?_
  refine r1 T0_ok hP hm hN ?_
  refine g1 ?_
  refine awp_block ?_
  refine awp_loop (fun K st => ∃ c : Nat, 1 ≤ c ∧ c ≤ cn + 1 ∧ K = cn + 1 - c ∧ st = ⟨[(13, .val (.int .i64 (c : Nat))), (12, .own 50), (9, .own 0), (8, .val (.int .i64 (hs.length : Nat))), (0, .sl 1 (i64s hs)), (1, .sl 8 (bks bs)), (2, .val (.int .i64 (cn : Nat)))], (50, ⟨2, 1, false, i64s ((0 :: hs))⟩) :: (0, ⟨31, 1, true, tabD (uO (rowG (wF bs (0 :: hs)) hs.length) c) (cn + 1)⟩) :: famR (rowM hs.length) 2 c (cn + 1 - c), 51⟩) cn ⟨_, weak_sl (sub_cons rfl (sub_cons rfl (sub_cons rfl (sub_cons rfl (sub_cons rfl (sub_cons rfl (sub_cons rfl (sub_nil)))))))), 1, by omega, by omega, by omega, rfl⟩ ?_
  rintro K st ⟨c, hc1', hc2', hKc, rfl⟩
  refine awp_seq ?_
  refine awp_seq ?_
  refine r1 T0_ok hP hm hN ?_
  iterate 3 refine g1 ?_
  refine awp_cond rfl (fun hc2 => ?_) (fun hc2 => ?_)
  ·
   have hltc : c < cn + 1 := by simp only [decide_eq_true_eq] at hc2; omega
   obtain ⟨cp, rfl⟩ : ∃ cp, c = cp + 1 := ⟨c - 1, by omega⟩
   obtain ⟨kk, hkk⟩ : ∃ kk, cn + 1 - (cp + 1) = kk + 1 := ⟨cn + 1 - (cp + 1) - 1, by omega⟩
   refine awp_skip ?_
   refine awp_seq ?_
   refine awp_block ?_
   refine awp_seq ?_
   refine awp_weak (show Weak C _ ⟨[(13, .val (.int .i64 (cp + 1 : Nat))), (12, .own 50), (9, .own 0), (8, .val (.int .i64 (hs.length : Nat))), (0, .sl 1 (i64s hs)), (1, .sl 8 (bks bs)), (2, .val (.int .i64 (cn : Nat)))], (51, ⟨2, 1, false, i64s (rowM hs.length (cp + 1))⟩) :: ([(50, ⟨2, 1, false, i64s ((0 :: hs))⟩)] ++ (0, ⟨31, 1, true, tabD (uK (rowG (wF bs (0 :: hs)) hs.length) (cp + 1) (.own 51)) (cn + 1)⟩) :: famR (rowM hs.length) 2 (cp + 1 + 1) kk), 52⟩ from by
     refine Weak.trans (show Weak C _ ⟨[(13, .val (.int .i64 (cp + 1 : Nat))), (12, .own 50), (9, .own 0), (8, .val (.int .i64 (hs.length : Nat))), (0, .sl 1 (i64s hs)), (1, .sl 8 (bks bs)), (2, .val (.int .i64 (cn : Nat)))], _, _⟩ from weak_sl (sub_cons rfl (sub_cons rfl (sub_cons rfl (sub_cons rfl (sub_cons rfl (sub_cons rfl (sub_cons rfl (sub_nil))))))))) ?_
     rw [hkk]
     exact weak_unf (X := [(50, ⟨2, 1, false, i64s ((0 :: hs))⟩)]) (by omega) (by omega) (by omega) (by omega) (fun q hq => by rw [lk_cons, if_neg (by omega)]; rfl) (fun q o h => by rw [lk_cons] at h; split at h <;> cases h; rfl) rfl (by simp [swSl, swD, swA, swC, swN]; omega)) ?_
   have hTc := uK_cur (rowG (wF bs (0 :: hs)) hs.length) (.own 51) (show cp + 1 < cn + 1 by omega)
   have hTo := uK_old (rowG (wF bs (0 :: hs)) hs.length) (.own 51) (show cp + 1 < cn + 1 by omega) (show cp < cp + 1 by omega)
   refine r1 T0_ok hP hm hN ?_
   refine g1 ?_
   refine awp_block ?_
   refine awp_loop (fun n st => ∃ i : Nat, i ≤ hs.length ∧ n = hs.length - i ∧ st = ⟨[(14, .val (.int .i64 (i : Nat))), (13, .val (.int .i64 (cp + 1 : Nat))), (12, .own 50), (9, .own 0), (8, .val (.int .i64 (hs.length : Nat))), (0, .sl 1 (i64s hs)), (1, .sl 8 (bks bs)), (2, .val (.int .i64 (cn : Nat)))], ((51, ⟨2, 1, false, i64s (tabI (rowS (wF bs (0 :: hs)) hs.length (cp + 1) i) (hs.length + 1))⟩) :: ([(50, ⟨2, 1, false, i64s ((0 :: hs))⟩)] ++ (0, ⟨31, 1, true, tabD (uK (rowG (wF bs (0 :: hs)) hs.length) (cp + 1) (.own 51)) (cn + 1)⟩) :: famR (rowM hs.length) 2 (cp + 1 + 1) kk)), 52⟩) (hs.length) ⟨_, (by rw [← rowS_first]; exact weak_sl (sub_cons rfl (sub_cons rfl (sub_cons rfl (sub_cons rfl (sub_cons rfl (sub_cons rfl (sub_cons rfl (sub_cons rfl (sub_nil)))))))))), 0, by omega, rfl, rfl⟩ ?_
   rintro n st ⟨i, hii, hni, rfl⟩
   refine awp_seq ?_
   refine awp_seq ?_
   refine r1 T0_ok hP hm hN ?_
   iterate 3 refine g1 ?_
   refine awp_cond rfl (fun hc3 => ?_) (fun hc3 => ?_)
   ·
    have hlti : i < hs.length := by simp only [decide_eq_true_eq] at hc3; omega
    refine awp_skip ?_
    refine awp_seq ?_
    refine awp_block ?_
    refine awp_seq ?_
    refine r1 T0_ok hP hm hN ?_
    iterate 3 refine g1 ?_
    refine awp_block ?_
    refine awp_loop (fun K st => ∃ s : Nat, i + 1 + s ≤ (hs.length + 1) ∧ K = hs.length - i - s ∧ st = ⟨[(15, .val (.int .i64 (i + 1 + s : Nat))), (14, .val (.int .i64 (i : Nat))), (13, .val (.int .i64 (cp + 1 : Nat))), (12, .own 50), (9, .own 0), (8, .val (.int .i64 (hs.length : Nat))), (0, .sl 1 (i64s hs)), (1, .sl 8 (bks bs)), (2, .val (.int .i64 (cn : Nat)))], ((51, ⟨2, 1, false, i64s (tabI (updN (rowS (wF bs (0 :: hs)) hs.length (cp + 1) i) i (mnS ((wF bs (0 :: hs)) i) (FS (wF bs (0 :: hs)) hs.length cp) (i + 1) s)) (hs.length + 1))⟩) :: ([(50, ⟨2, 1, false, i64s ((0 :: hs))⟩)] ++ (0, ⟨31, 1, true, tabD (uK (rowG (wF bs (0 :: hs)) hs.length) (cp + 1) (.own 51)) (cn + 1)⟩) :: famR (rowM hs.length) 2 (cp + 1 + 1) kk)), 52⟩) (hs.length - i) ⟨_, (by rw [← rowS_self]; exact weak_sl (sub_cons rfl (sub_cons rfl (sub_cons rfl (sub_cons rfl (sub_cons rfl (sub_cons rfl (sub_cons rfl (sub_cons rfl (sub_cons rfl (sub_nil))))))))))), 0, by omega, by omega, rfl⟩ ?_
    rintro K st ⟨s, hs1, hKs, rfl⟩
    refine awp_seq ?_
    refine awp_seq ?_
    refine r1 T0_ok hP hm hN ?_
    iterate 3 refine g1 ?_
    refine awp_cond rfl (fun hc4 => ?_) (fun hc4 => ?_)
    ·
     have hltj : i + 1 + s < (hs.length + 1) := by simp only [decide_eq_true_eq] at hc4; omega
     have hWb : 0 ≤ wOn bs ((0 :: hs).getD i 0) ((0 :: hs).getD (i + 1 + s) 0) bs.length ∧ wOn bs ((0 :: hs).getD i 0) ((0 :: hs).getD (i + 1 + s) 0) bs.length ≤ 6000000 := wF_b ho hl hal i (i + 1 + s)
     have hFb : -1 ≤ FS (wF bs (0 :: hs)) hs.length cp (i + 1 + s) ∧ FS (wF bs (0 :: hs)) hs.length cp (i + 1 + s) ≤ (cp : Nat) * 6000000 := FS_b hWW (by omega) cp (i + 1 + s)
     have hai := al_b hal i
     have haj := al_b hal (i + 1 + s)
     have hgi := i64s_get (0 :: hs) i (by simp only [List.length_cons]; omega)
     have hgj := i64s_get (0 :: hs) (i + 1 + s) (by simp only [List.length_cons]; omega)
     refine awp_skip ?_
     refine awp_seq ?_
     refine awp_block ?_
     refine awp_seq ?_
     refine r1 T0_ok hP hm hN ?_
     iterate 2 refine g1 ?_
     refine g1 ?_ (hst := by simp +decide (disch := omega) only [nrm, lk_nrm, dc_nrm, mk_nrm, mf_nrm, ti_nrm, ls_nrm, mp_nrm, nb_nrm, hset, pick_and, pick_or, ↓reduceIte, Nat.reduceAdd, wI64, wI32, wI16, wI8, wU8, List.length_map, Int.toNat_natCast, xn1, xn2, castsub1]; rfl)
     refine g1 ?_ (hpre := by exact ⟨rfl, by omega, by (try simp only [tabD_len, tabI_len, List.length_map, List.length_cons, List.length_set, List.length_replicate]); omega⟩)
     refine g1 ?_ (hs := by first | rfl | exact astep_load_p (by rfl) (by rfl) (by rfl) (by exact hTo) (by rfl))
     refine g1 ?_
     refine g1 ?_ (hpre := by exact ⟨rfl, by omega, by (try simp only [tabD_len, tabI_len, List.length_map, List.length_cons, List.length_set, List.length_replicate]); omega⟩)
     refine g1 ?_ (hs := by first | rfl | exact astep_load_r (by rfl) (by rfl) (by exact tabI_get _ (by omega)) (by rfl))
     refine g1 ?_
     refine awp_seq ?_
     refine awp_draw T0_ok hP hm hN Pr_mix [50] [9] _ rfl (by rfl) ?_
     iterate 3 refine d1 T0_ok ?_
     refine d1 T0_ok ?_ (hpre := by exact ⟨rfl, by omega, by (try simp only [tabD_len, tabI_len, List.length_map, List.length_cons, List.length_set, List.length_replicate]); omega⟩)
     refine d1 T0_ok ?_ (hs := by first | rfl | exact astep_load_p (by rfl) (by rfl) (by rfl) (by exact hgi) (by rfl))
     iterate 2 refine d1 T0_ok ?_
     refine d1 T0_ok ?_ (hpre := by exact ⟨rfl, by omega, by (try simp only [tabD_len, tabI_len, List.length_map, List.length_cons, List.length_set, List.length_replicate]); omega⟩)
     refine d1 T0_ok ?_ (hs := by first | rfl | exact astep_load_p (by rfl) (by rfl) (by rfl) (by exact hgj) (by rfl))
     refine dp1 ?_ (call1 ok_S_l04Part (_, _, _) [] (hpre := by (try dsimp only); exact ⟨⟨hv, ho, hl⟩, haj⟩))
     refine d1 T0_ok ?_
     refine dreg_nil ?_
     refine awp_seq ?_
     refine r1 T0_ok hP hm hN ?_
     iterate 3 refine g1 ?_
     cases hs0 : decide ((FS (wF bs (0 :: hs)) hs.length cp (i + 1 + s)) ≥ 0)
     ·
      iterate 21 (first | refine gn1 ?_ | refine gu1 ?_)
      refine g1 ?_
      refine awp_cond rfl (fun h117 => ?_) (fun h117 => ?_)
      ·
       have hms : (mnS ((wF bs (0 :: hs)) i) (FS (wF bs (0 :: hs)) hs.length cp) (i + 1) (s + 1)) = wOn bs ((0 :: hs).getD i 0) ((0 :: hs).getD (i + 1 + s) 0) bs.length + (FS (wF bs (0 :: hs)) hs.length cp (i + 1 + s)) := by
         rw [mnS]
         exact if_pos (by first | (rw [hs0, hs1]; rfl) | (rw [hs0, hs1, h117]; rfl) | (exact absurd h117 (by decide)))
       refine r1 T0_ok hP hm hN ?_
       iterate 2 refine g1 ?_
       refine g1 ?_ (hpre := by exact ⟨rfl, by omega, by (try simp only [tabD_len, tabI_len, List.length_map, List.length_cons, List.length_set, List.length_replicate]); omega⟩)
       refine g1 ?_ (hs := by first | rfl | exact astep_load_p (by rfl) (by rfl) (by rfl) (by exact hTc) (by rfl))
       iterate 4 refine g1 ?_
       refine g1 ?_ (hpre := by exact ⟨rfl, by omega, by (try simp only [tabD_len, tabI_len, List.length_map, List.length_cons, List.length_set, List.length_replicate]); omega⟩)
       refine g1 ?_ (hs := by exact astep_store_p (by rfl) (by rfl) (by rfl) (by rfl) (by exact tabI_get _ (by omega)))
       refine r1 T0_ok hP hm hN ?_
       iterate 3 refine g1 ?_
       first
         | exact ⟨hs.length - i - (s + 1), _, by omega, (by rw [tab_step _ _ i (mnS ((wF bs (0 :: hs)) i) (FS (wF bs (0 :: hs)) hs.length cp) (i + 1) s) (mnS ((wF bs (0 :: hs)) i) (FS (wF bs (0 :: hs)) hs.length cp) (i + 1) (s + 1)), hms]; exact weak_sl (sub_cons rfl (sub_cons rfl (sub_cons rfl (sub_cons rfl (sub_cons rfl (sub_cons rfl (sub_cons rfl (sub_cons rfl (sub_cons rfl (sub_nil))))))))))), s + 1, by omega, by omega, rfl⟩
         | exact ⟨hs.length - i - (s + 1), _, by omega, (by rw [hms]; exact weak_sl (sub_cons rfl (sub_cons rfl (sub_cons rfl (sub_cons rfl (sub_cons rfl (sub_cons rfl (sub_cons rfl (sub_cons rfl (sub_cons rfl (sub_nil))))))))))), s + 1, by omega, by omega, rfl⟩
      ·
       have hms : (mnS ((wF bs (0 :: hs)) i) (FS (wF bs (0 :: hs)) hs.length cp) (i + 1) (s + 1)) = (mnS ((wF bs (0 :: hs)) i) (FS (wF bs (0 :: hs)) hs.length cp) (i + 1) s) := by
         rw [mnS]
         exact if_neg (by first | (rw [hs0]; simp; done) | (rw [hs0, hs1, h117]; simp; done) | (exact absurd h117 (by decide)))
       refine awp_skip ?_
       refine r1 T0_ok hP hm hN ?_
       iterate 3 refine g1 ?_
       first
         | exact ⟨hs.length - i - (s + 1), _, by omega, (by rw [tab_step _ _ i (mnS ((wF bs (0 :: hs)) i) (FS (wF bs (0 :: hs)) hs.length cp) (i + 1) s) (mnS ((wF bs (0 :: hs)) i) (FS (wF bs (0 :: hs)) hs.length cp) (i + 1) (s + 1)), hms]; exact weak_sl (sub_cons rfl (sub_cons rfl (sub_cons rfl (sub_cons rfl (sub_cons rfl (sub_cons rfl (sub_cons rfl (sub_cons rfl (sub_cons rfl (sub_nil))))))))))), s + 1, by omega, by omega, rfl⟩
         | exact ⟨hs.length - i - (s + 1), _, by omega, (by rw [hms]; exact weak_sl (sub_cons rfl (sub_cons rfl (sub_cons rfl (sub_cons rfl (sub_cons rfl (sub_cons rfl (sub_cons rfl (sub_cons rfl (sub_cons rfl (sub_nil))))))))))), s + 1, by omega, by omega, rfl⟩
     ·
      iterate 2 refine gy1 ?_
      refine gy1 ?_ (hpre := by exact ⟨rfl, by omega, by (try simp only [tabD_len, tabI_len, List.length_map, List.length_cons, List.length_set, List.length_replicate]); omega⟩)
      refine gy1 ?_ (hs := by first | rfl | exact astep_load_p (by rfl) (by rfl) (by rfl) (by exact hTc) (by rfl))
      refine gy1 ?_
      refine gy1 ?_ (hpre := by exact ⟨rfl, by omega, by (try simp only [tabD_len, tabI_len, List.length_map, List.length_cons, List.length_set, List.length_replicate]); omega⟩)
      refine gy1 ?_ (hs := by first | rfl | exact astep_load_p (by rfl) (by rfl) (by rfl) (by exact tabI_get _ (by omega)) (by rfl)) (hst := by simp +decide (disch := omega) only [nrm, lk_nrm, dc_nrm, mk_nrm, mf_nrm, ti_nrm, ls_nrm, mp_nrm, nb_nrm, hset, pick_and, pick_or, ↓reduceIte, Nat.reduceAdd, wI64, wI32, wI16, wI8, wU8, List.length_map, Int.toNat_natCast, xn1, xn2, updN, ↓reduceIte]; rfl)
      iterate 2 refine gy1 ?_
      cases hs1 : decide ((mnS ((wF bs (0 :: hs)) i) (FS (wF bs (0 :: hs)) hs.length cp) (i + 1) s) < 0)
      ·
       iterate 5 refine gy1 ?_
       refine gy1 ?_ (hpre := by exact ⟨rfl, by omega, by (try simp only [tabD_len, tabI_len, List.length_map, List.length_cons, List.length_set, List.length_replicate]); omega⟩)
       refine gy1 ?_ (hs := by first | rfl | exact astep_load_p (by rfl) (by rfl) (by rfl) (by exact hTc) (by rfl))
       refine gy1 ?_
       refine gy1 ?_ (hpre := by exact ⟨rfl, by omega, by (try simp only [tabD_len, tabI_len, List.length_map, List.length_cons, List.length_set, List.length_replicate]); omega⟩)
       refine gy1 ?_ (hs := by first | rfl | exact astep_load_p (by rfl) (by rfl) (by rfl) (by exact tabI_get _ (by omega)) (by rfl)) (hst := by simp +decide (disch := omega) only [nrm, lk_nrm, dc_nrm, mk_nrm, mf_nrm, ti_nrm, ls_nrm, mp_nrm, nb_nrm, hset, pick_and, pick_or, ↓reduceIte, Nat.reduceAdd, wI64, wI32, wI16, wI8, wU8, List.length_map, Int.toNat_natCast, xn1, xn2, updN, ↓reduceIte]; rfl)
       iterate 2 refine gy1 ?_
       refine g1 ?_
       refine awp_cond rfl (fun h117 => ?_) (fun h117 => ?_)
       ·
        have hms : (mnS ((wF bs (0 :: hs)) i) (FS (wF bs (0 :: hs)) hs.length cp) (i + 1) (s + 1)) = wOn bs ((0 :: hs).getD i 0) ((0 :: hs).getD (i + 1 + s) 0) bs.length + (FS (wF bs (0 :: hs)) hs.length cp (i + 1 + s)) := by
          rw [mnS]
          exact if_pos (by first | (rw [hs0, hs1]; rfl) | (rw [hs0, hs1, h117]; rfl) | (exact absurd h117 (by decide)))
        refine r1 T0_ok hP hm hN ?_
        iterate 2 refine g1 ?_
        refine g1 ?_ (hpre := by exact ⟨rfl, by omega, by (try simp only [tabD_len, tabI_len, List.length_map, List.length_cons, List.length_set, List.length_replicate]); omega⟩)
        refine g1 ?_ (hs := by first | rfl | exact astep_load_p (by rfl) (by rfl) (by rfl) (by exact hTc) (by rfl))
        iterate 4 refine g1 ?_
        refine g1 ?_ (hpre := by exact ⟨rfl, by omega, by (try simp only [tabD_len, tabI_len, List.length_map, List.length_cons, List.length_set, List.length_replicate]); omega⟩)
        refine g1 ?_ (hs := by exact astep_store_p (by rfl) (by rfl) (by rfl) (by rfl) (by exact tabI_get _ (by omega)))
        refine r1 T0_ok hP hm hN ?_
        iterate 3 refine g1 ?_
        first
          | exact ⟨hs.length - i - (s + 1), _, by omega, (by rw [tab_step _ _ i (mnS ((wF bs (0 :: hs)) i) (FS (wF bs (0 :: hs)) hs.length cp) (i + 1) s) (mnS ((wF bs (0 :: hs)) i) (FS (wF bs (0 :: hs)) hs.length cp) (i + 1) (s + 1)), hms]; exact weak_sl (sub_cons rfl (sub_cons rfl (sub_cons rfl (sub_cons rfl (sub_cons rfl (sub_cons rfl (sub_cons rfl (sub_cons rfl (sub_cons rfl (sub_nil))))))))))), s + 1, by omega, by omega, rfl⟩
          | exact ⟨hs.length - i - (s + 1), _, by omega, (by rw [hms]; exact weak_sl (sub_cons rfl (sub_cons rfl (sub_cons rfl (sub_cons rfl (sub_cons rfl (sub_cons rfl (sub_cons rfl (sub_cons rfl (sub_cons rfl (sub_nil))))))))))), s + 1, by omega, by omega, rfl⟩
       ·
        have hms : (mnS ((wF bs (0 :: hs)) i) (FS (wF bs (0 :: hs)) hs.length cp) (i + 1) (s + 1)) = (mnS ((wF bs (0 :: hs)) i) (FS (wF bs (0 :: hs)) hs.length cp) (i + 1) s) := by
          rw [mnS]
          exact if_neg (by first | (rw [hs0]; simp; done) | (rw [hs0, hs1, h117]; simp; done) | (exact absurd h117 (by decide)))
        refine awp_skip ?_
        refine r1 T0_ok hP hm hN ?_
        iterate 3 refine g1 ?_
        first
          | exact ⟨hs.length - i - (s + 1), _, by omega, (by rw [tab_step _ _ i (mnS ((wF bs (0 :: hs)) i) (FS (wF bs (0 :: hs)) hs.length cp) (i + 1) s) (mnS ((wF bs (0 :: hs)) i) (FS (wF bs (0 :: hs)) hs.length cp) (i + 1) (s + 1)), hms]; exact weak_sl (sub_cons rfl (sub_cons rfl (sub_cons rfl (sub_cons rfl (sub_cons rfl (sub_cons rfl (sub_cons rfl (sub_cons rfl (sub_cons rfl (sub_nil))))))))))), s + 1, by omega, by omega, rfl⟩
          | exact ⟨hs.length - i - (s + 1), _, by omega, (by rw [hms]; exact weak_sl (sub_cons rfl (sub_cons rfl (sub_cons rfl (sub_cons rfl (sub_cons rfl (sub_cons rfl (sub_cons rfl (sub_cons rfl (sub_cons rfl (sub_nil))))))))))), s + 1, by omega, by omega, rfl⟩
      ·
       iterate 11 (first | refine gn1 ?_ | refine gu1 ?_)
       refine gy1 ?_
       refine g1 ?_
       refine awp_cond rfl (fun h117 => ?_) (fun h117 => ?_)
       ·
        have hms : (mnS ((wF bs (0 :: hs)) i) (FS (wF bs (0 :: hs)) hs.length cp) (i + 1) (s + 1)) = wOn bs ((0 :: hs).getD i 0) ((0 :: hs).getD (i + 1 + s) 0) bs.length + (FS (wF bs (0 :: hs)) hs.length cp (i + 1 + s)) := by
          rw [mnS]
          exact if_pos (by first | (rw [hs0, hs1]; rfl) | (rw [hs0, hs1, h117]; rfl) | (exact absurd h117 (by decide)))
        refine r1 T0_ok hP hm hN ?_
        iterate 2 refine g1 ?_
        refine g1 ?_ (hpre := by exact ⟨rfl, by omega, by (try simp only [tabD_len, tabI_len, List.length_map, List.length_cons, List.length_set, List.length_replicate]); omega⟩)
        refine g1 ?_ (hs := by first | rfl | exact astep_load_p (by rfl) (by rfl) (by rfl) (by exact hTc) (by rfl))
        iterate 4 refine g1 ?_
        refine g1 ?_ (hpre := by exact ⟨rfl, by omega, by (try simp only [tabD_len, tabI_len, List.length_map, List.length_cons, List.length_set, List.length_replicate]); omega⟩)
        refine g1 ?_ (hs := by exact astep_store_p (by rfl) (by rfl) (by rfl) (by rfl) (by exact tabI_get _ (by omega)))
        refine r1 T0_ok hP hm hN ?_
        iterate 3 refine g1 ?_
        first
          | exact ⟨hs.length - i - (s + 1), _, by omega, (by rw [tab_step _ _ i (mnS ((wF bs (0 :: hs)) i) (FS (wF bs (0 :: hs)) hs.length cp) (i + 1) s) (mnS ((wF bs (0 :: hs)) i) (FS (wF bs (0 :: hs)) hs.length cp) (i + 1) (s + 1)), hms]; exact weak_sl (sub_cons rfl (sub_cons rfl (sub_cons rfl (sub_cons rfl (sub_cons rfl (sub_cons rfl (sub_cons rfl (sub_cons rfl (sub_cons rfl (sub_nil))))))))))), s + 1, by omega, by omega, rfl⟩
          | exact ⟨hs.length - i - (s + 1), _, by omega, (by rw [hms]; exact weak_sl (sub_cons rfl (sub_cons rfl (sub_cons rfl (sub_cons rfl (sub_cons rfl (sub_cons rfl (sub_cons rfl (sub_cons rfl (sub_cons rfl (sub_nil))))))))))), s + 1, by omega, by omega, rfl⟩
       ·
        have hms : (mnS ((wF bs (0 :: hs)) i) (FS (wF bs (0 :: hs)) hs.length cp) (i + 1) (s + 1)) = (mnS ((wF bs (0 :: hs)) i) (FS (wF bs (0 :: hs)) hs.length cp) (i + 1) s) := by
          rw [mnS]
          exact if_neg (by first | (rw [hs0]; simp; done) | (rw [hs0, hs1, h117]; simp; done) | (exact absurd h117 (by decide)))
        refine awp_skip ?_
        refine r1 T0_ok hP hm hN ?_
        iterate 3 refine g1 ?_
        first
          | exact ⟨hs.length - i - (s + 1), _, by omega, (by rw [tab_step _ _ i (mnS ((wF bs (0 :: hs)) i) (FS (wF bs (0 :: hs)) hs.length cp) (i + 1) s) (mnS ((wF bs (0 :: hs)) i) (FS (wF bs (0 :: hs)) hs.length cp) (i + 1) (s + 1)), hms]; exact weak_sl (sub_cons rfl (sub_cons rfl (sub_cons rfl (sub_cons rfl (sub_cons rfl (sub_cons rfl (sub_cons rfl (sub_cons rfl (sub_cons rfl (sub_nil))))))))))), s + 1, by omega, by omega, rfl⟩
          | exact ⟨hs.length - i - (s + 1), _, by omega, (by rw [hms]; exact weak_sl (sub_cons rfl (sub_cons rfl (sub_cons rfl (sub_cons rfl (sub_cons rfl (sub_cons rfl (sub_cons rfl (sub_cons rfl (sub_cons rfl (sub_nil))))))))))), s + 1, by omega, by omega, rfl⟩
    ·
     have hgej : ¬ (i + 1 + s < (hs.length + 1)) := by simp only [decide_eq_false_iff_not] at hc4; omega
     obtain rfl : s = hs.length - i := by omega
     rw [rowS_next]
     refine awp_exit ?_
     repeat refine thenA_exit ?_
     refine blockA_hit ?_
     refine r1 T0_ok hP hm hN ?_
     iterate 3 refine g1 ?_
     refine ⟨hs.length - (i + 1), _, by omega, weak_sl (sub_cons rfl (sub_cons rfl (sub_cons rfl (sub_cons rfl (sub_cons rfl (sub_cons rfl (sub_cons rfl (sub_cons rfl (sub_nil))))))))), i + 1, by omega, rfl, rfl⟩
   ·
    have hgei : ¬ (i < hs.length) := by simp only [decide_eq_false_iff_not] at hc3; omega
    obtain rfl : i = hs.length := by omega
    rw [rowS_end]
    refine awp_exit ?_
    repeat refine thenA_exit ?_
    refine blockA_hit ?_
    refine r1 T0_ok hP hm hN ?_
    iterate 3 refine g1 ?_
    refine ⟨kk, _, by omega, ?_, cp + 1 + 1, by omega, by omega, by omega, by rw [show cn + 1 - (cp + 1 + 1) = kk by omega]⟩
    exact Weak.trans (weak_sl (sub_cons rfl (sub_cons rfl (sub_cons rfl (sub_cons rfl (sub_cons rfl (sub_cons rfl (sub_cons rfl (sub_nil))))))))) (weak_fin2 (X := [(50, ⟨2, 1, false, i64s ((0 :: hs))⟩)]) hS0 hG (by omega) (by omega) (by omega) (by omega) rfl rfl rfl rfl)
  ·
   have hgec : ¬ (c < cn + 1) := by simp only [decide_eq_false_iff_not] at hc2; omega
   obtain rfl : c = cn + 1 := by omega
   refine awp_exit ?_
   repeat refine thenA_exit ?_
   refine blockA_hit ?_
   refine awp_seq ?_
   refine awp_weak (show Weak C _ ⟨[(12, .own 50), (9, .own 0), (8, .val (.int .i64 (hs.length : Nat))), (0, .sl 1 (i64s hs)), (1, .sl 8 (bks bs)), (2, .val (.int .i64 (cn : Nat)))], [(50, ⟨2, 1, false, i64s ((0 :: hs))⟩), (0, ⟨31, 1, false, tabD (gI (rowG (wF bs (0 :: hs)) hs.length) (cn + 1)) (cn + 1)⟩)], 51⟩ from by
     rw [← uO_end]
     refine Weak.trans (weak_deep 0 false rfl (fun _ _ => uO_hf _ _)) ?_
     rw [Nat.sub_self]
     exact weak_sl (sub_cons rfl (sub_cons rfl (sub_cons rfl (sub_cons rfl (sub_cons rfl (sub_cons rfl (sub_nil)))))))) ?_
   refine r1 T0_ok hP hm hN ?_
   refine g1 ?_ (hst := by simp +decide (disch := omega) only [nrm, lk_nrm, dc_nrm, mk_nrm, mf_nrm, ti_nrm, ls_nrm, mp_nrm, nb_nrm, hset, pick_and, pick_or, ↓reduceIte, Nat.reduceAdd, wI64, wI32, wI16, wI8, wU8, List.length_map, Int.toNat_natCast, xn1, xn2, List.all_nil, Bool.not_true]; rfl)
   refine g1 ?_
   refine awp_seq ?_
   refine r1 T0_ok hP hm hN ?_
   refine g1 ?_
   refine awp_seq ?_
   refine awp_seq ?_
   refine r1 T0_ok hP hm hN ?_
   iterate 2 refine g1 ?_
   refine awp_block ?_
   refine awp_loop (fun K st => ∃ (k t : Nat) (ou : List Int), k ≤ cn ∧ t ≤ hs.length ∧ ou.length + k ≤ cn ∧ ou ++ (trS (wF bs (0 :: hs)) hs.length k t).map (fun j => (0 :: hs).getD j 0) = bestLS hs bs cn ∧ K = k ∧ st = ⟨[(20, .val (.int .i64 (k : Nat))), (19, .val (.int .i64 (t : Nat))), (18, .own 51), (12, .own 50), (9, .own 0), (8, .val (.int .i64 (hs.length : Nat))), (0, .sl 1 (i64s hs)), (1, .sl 8 (bks bs)), (2, .val (.int .i64 (cn : Nat)))], [(51, ⟨2, 1, false, i64s (ou)⟩), (50, ⟨2, 1, false, i64s ((0 :: hs))⟩), (0, ⟨31, 1, false, tabD (gI (rowG (wF bs (0 :: hs)) hs.length) (cn + 1)) (cn + 1)⟩)], 52⟩) cn ⟨_, weak_sl (sub_cons rfl (sub_cons rfl (sub_cons rfl (sub_cons rfl (sub_cons rfl (sub_cons rfl (sub_cons rfl (sub_cons rfl (sub_cons rfl (sub_nil)))))))))), cn, 0, [], by omega, by omega, by simp, by rw [List.nil_append]; rfl, rfl, rfl⟩ ?_
   rintro K st ⟨k, t, ou, hk, ht, hou, htr, hKk, rfl⟩
   refine awp_seq ?_
   refine awp_seq ?_
   refine r1 T0_ok hP hm hN ?_
   iterate 2 refine g1 ?_
   refine awp_cond rfl (fun h130 => ?_) (fun h130 => ?_)
   ·
    obtain ⟨kp, rfl⟩ : ∃ kp, k = kp + 1 := ⟨k - 1, by simp at h130; omega⟩
    refine awp_skip ?_
    refine awp_seq ?_
    refine awp_block ?_
    refine awp_seq ?_
    refine r1 T0_ok hP hm hN ?_
    iterate 3 refine g1 ?_
    refine awp_block ?_
    refine awp_loop (fun K st => ∃ s : Nat, t + 1 + s ≤ (hs.length + 1) ∧ (∀ q, t + 1 ≤ q → q < t + 1 + s → cS (wF bs (0 :: hs)) hs.length kp t q = false) ∧ K = hs.length - t - s ∧ st = ⟨[(21, .val (.int .i64 (t + 1 + s : Nat))), (20, .val (.int .i64 (kp + 1 : Nat))), (19, .val (.int .i64 (t : Nat))), (18, .own 51), (12, .own 50), (9, .own 0), (8, .val (.int .i64 (hs.length : Nat))), (0, .sl 1 (i64s hs)), (1, .sl 8 (bks bs)), (2, .val (.int .i64 (cn : Nat)))], [(51, ⟨2, 1, false, i64s (ou)⟩), (50, ⟨2, 1, false, i64s ((0 :: hs))⟩), (0, ⟨31, 1, false, tabD (gI (rowG (wF bs (0 :: hs)) hs.length) (cn + 1)) (cn + 1)⟩)], 52⟩) (hs.length - t) ⟨_, weak_sl (sub_cons rfl (sub_cons rfl (sub_cons rfl (sub_cons rfl (sub_cons rfl (sub_cons rfl (sub_cons rfl (sub_cons rfl (sub_cons rfl (sub_cons rfl (sub_nil))))))))))), 0, by omega, fun q h1 h2 => by omega, by omega, rfl⟩ ?_
    rintro K st ⟨s, hs1, hall, hKs, rfl⟩
    refine awp_seq ?_
    refine awp_seq ?_
    refine r1 T0_ok hP hm hN ?_
    iterate 3 refine g1 ?_
    refine awp_cond rfl (fun h137 => ?_) (fun h137 => ?_)
    ·
     have hltj : t + 1 + s < (hs.length + 1) := by simp only [decide_eq_true_eq] at h137; omega
     have hTc := gI_old (rowG (wF bs (0 :: hs)) hs.length) (show cn + 1 ≤ cn + 1 by omega) (show kp + 1 < cn + 1 by omega)
     have hTo := gI_old (rowG (wF bs (0 :: hs)) hs.length) (show cn + 1 ≤ cn + 1 by omega) (show kp < cn + 1 by omega)
     have hWb : 0 ≤ wOn bs ((0 :: hs).getD t 0) ((0 :: hs).getD (t + 1 + s) 0) bs.length ∧ wOn bs ((0 :: hs).getD t 0) ((0 :: hs).getD (t + 1 + s) 0) bs.length ≤ 6000000 := wF_b ho hl hal t (t + 1 + s)
     have hFb : -1 ≤ FS (wF bs (0 :: hs)) hs.length kp (t + 1 + s) ∧ FS (wF bs (0 :: hs)) hs.length kp (t + 1 + s) ≤ (kp : Nat) * 6000000 := FS_b hWW (by omega) kp (t + 1 + s)
     have hai := al_b hal t
     have haj := al_b hal (t + 1 + s)
     have hgi := i64s_get (0 :: hs) t (by simp only [List.length_cons]; omega)
     have hgj := i64s_get (0 :: hs) (t + 1 + s) (by simp only [List.length_cons]; omega)
     refine awp_skip ?_
     refine awp_seq ?_
     refine awp_block ?_
     refine awp_seq ?_
     refine r1 T0_ok hP hm hN ?_
     iterate 2 refine g1 ?_
     refine g1 ?_ (hst := by simp +decide (disch := omega) only [nrm, lk_nrm, dc_nrm, mk_nrm, mf_nrm, ti_nrm, ls_nrm, mp_nrm, nb_nrm, hset, pick_and, pick_or, ↓reduceIte, Nat.reduceAdd, wI64, wI32, wI16, wI8, wU8, List.length_map, Int.toNat_natCast, xn1, xn2, castsub1]; rfl)
     refine g1 ?_ (hpre := by exact ⟨rfl, by omega, by (try simp only [tabD_len, tabI_len, List.length_map, List.length_cons, List.length_set, List.length_replicate]); omega⟩)
     refine g1 ?_ (hs := by first | rfl | exact astep_load_p (by rfl) (by rfl) (by rfl) (by exact hTo) (by rfl))
     refine g1 ?_
     refine g1 ?_ (hpre := by exact ⟨rfl, by omega, by (try simp only [tabD_len, tabI_len, List.length_map, List.length_cons, List.length_set, List.length_replicate]); omega⟩)
     refine g1 ?_ (hs := by first | rfl | exact astep_load_r (by rfl) (by rfl) (by exact tabI_get _ (by omega)) (by rfl))
     refine g1 ?_
     refine awp_seq ?_
     refine awp_draw T0_ok hP hm hN Pr_mix [0, 50] [12] _ rfl (by rfl) ?_
     iterate 3 refine d1 T0_ok ?_
     iterate 3 refine dg1 T0_ok ?_
     refine dg1 T0_ok ?_ (hs := by intro hb; simp +decide only [hb, gd_tt, gd_ff, beq_self_eq_true, Bool.true_and, beq_true]; exact ⟨_, by first | rfl | exact astep_load_r (by rfl) (by rfl) (by exact i64s_get _ _ (by omega)) (by rfl) | exact astep_load_r (by rfl) (by rfl) (by first | exact bks_get _ _ (by omega) | exact pls_get _ _ (by omega) | exact ints_get _ _ _ (by omega) | exact boolD_get _ _ (by omega) | exact i64ss_get _ _ (by omega) | assumption) (by rfl) | exact astep_store_p (by rfl) (by rfl) (by rfl) (by rfl) (by exact i64s_get _ _ (by omega)), by exact ⟨rfl, by omega, by (try simp only [tabD_len, tabI_len, List.length_map, List.length_cons, List.length_set, List.length_replicate]); omega⟩⟩)
     refine dg1 T0_ok ?_ (hs := by intro hb; simp +decide only [hb, gd_tt, gd_ff, beq_self_eq_true, Bool.true_and, beq_true]; exact ⟨_, by first | rfl | exact astep_load_p (by rfl) (by rfl) (by rfl) (by exact hgi) (by rfl), by first | trivial | rfl | exact ⟨rfl, rfl⟩ | exact ⟨rfl, rfl, fun _ => rfl, Nat.le_of_ble_eq_true rfl, .inl rfl⟩ | exact ⟨rfl, rfl, fun h => (nomatch h), Nat.le_of_ble_eq_true rfl, .inl rfl⟩ | exact ⟨rfl, rfl, fun _ => rfl, Nat.le_of_ble_eq_true rfl, .inr rfl⟩ | exact ⟨rfl, rfl, fun h => (nomatch h), Nat.le_of_ble_eq_true rfl, .inr rfl⟩ | omega | exact ⟨rfl, by (repeat (first | exact fm_nil | refine fm_cons ⟨rfl, rfl⟩ ?_)), Nat.le_of_ble_eq_true rfl, Nat.le_of_ble_eq_true rfl⟩ | (refine ⟨?_, ?_, ?_, ?_, ?_, ?_, ?_⟩ <;> first | omega | exact Nat.le_of_ble_eq_true rfl) | exact ⟨rfl, by omega, by (try simp only [List.length_map, List.length_set]); omega⟩ | exact ⟨rfl, by omega, by simp only [Int.toNat_natCast]; omega, by omega, Nat.le_of_ble_eq_true rfl, rfl⟩⟩)
     iterate 2 refine dg1 T0_ok ?_
     refine dg1 T0_ok ?_ (hs := by intro hb; simp +decide only [hb, gd_tt, gd_ff, beq_self_eq_true, Bool.true_and, beq_true]; exact ⟨_, by first | rfl | exact astep_load_r (by rfl) (by rfl) (by exact i64s_get _ _ (by omega)) (by rfl) | exact astep_load_r (by rfl) (by rfl) (by first | exact bks_get _ _ (by omega) | exact pls_get _ _ (by omega) | exact ints_get _ _ _ (by omega) | exact boolD_get _ _ (by omega) | exact i64ss_get _ _ (by omega) | assumption) (by rfl) | exact astep_store_p (by rfl) (by rfl) (by rfl) (by rfl) (by exact i64s_get _ _ (by omega)), by exact ⟨rfl, by omega, by (try simp only [tabD_len, tabI_len, List.length_map, List.length_cons, List.length_set, List.length_replicate]); omega⟩⟩)
     refine dg1 T0_ok ?_ (hs := by intro hb; simp +decide only [hb, gd_tt, gd_ff, beq_self_eq_true, Bool.true_and, beq_true]; exact ⟨_, by first | rfl | exact astep_load_p (by rfl) (by rfl) (by rfl) (by exact hgj) (by rfl), by first | trivial | rfl | exact ⟨rfl, rfl⟩ | exact ⟨rfl, rfl, fun _ => rfl, Nat.le_of_ble_eq_true rfl, .inl rfl⟩ | exact ⟨rfl, rfl, fun h => (nomatch h), Nat.le_of_ble_eq_true rfl, .inl rfl⟩ | exact ⟨rfl, rfl, fun _ => rfl, Nat.le_of_ble_eq_true rfl, .inr rfl⟩ | exact ⟨rfl, rfl, fun h => (nomatch h), Nat.le_of_ble_eq_true rfl, .inr rfl⟩ | omega | exact ⟨rfl, by (repeat (first | exact fm_nil | refine fm_cons ⟨rfl, rfl⟩ ?_)), Nat.le_of_ble_eq_true rfl, Nat.le_of_ble_eq_true rfl⟩ | (refine ⟨?_, ?_, ?_, ?_, ?_, ?_, ?_⟩ <;> first | omega | exact Nat.le_of_ble_eq_true rfl) | exact ⟨rfl, by omega, by (try simp only [List.length_map, List.length_set]); omega⟩ | exact ⟨rfl, by omega, by simp only [Int.toNat_natCast]; omega, by omega, Nat.le_of_ble_eq_true rfl, rfl⟩⟩)
     refine dgp1 ?_ (hr := by intro hb; simp +decide only [hb, gd_tt, gd_ff, beq_self_eq_true, Bool.true_and, beq_true]; exact ⟨_, call1 ok_S_l04Part (_, _, _) [] (hpre := by (try dsimp only); exact ⟨⟨hv, ho, hl⟩, haj⟩), rfl, rfl, rfl⟩)
     iterate 4 refine dg1 T0_ok ?_
     refine dg1 T0_ok ?_ (hs := by intro hb; simp +decide only [hb, gd_tt, gd_ff, beq_self_eq_true, Bool.true_and, beq_true]; exact ⟨_, by first | rfl | exact astep_load_r (by rfl) (by rfl) (by exact i64s_get _ _ (by omega)) (by rfl) | exact astep_load_r (by rfl) (by rfl) (by first | exact bks_get _ _ (by omega) | exact pls_get _ _ (by omega) | exact ints_get _ _ _ (by omega) | exact boolD_get _ _ (by omega) | exact i64ss_get _ _ (by omega) | assumption) (by rfl) | exact astep_store_p (by rfl) (by rfl) (by rfl) (by rfl) (by exact i64s_get _ _ (by omega)), by exact ⟨rfl, by omega, by (try simp only [tabD_len, tabI_len, List.length_map, List.length_cons, List.length_set, List.length_replicate]); omega⟩⟩)
     refine dg1 T0_ok ?_ (hs := by intro hb; simp +decide only [hb, gd_tt, gd_ff, beq_self_eq_true, Bool.true_and, beq_true]; exact ⟨_, by first | rfl | exact astep_load_p (by rfl) (by rfl) (by rfl) (by exact hTc) (by rfl), by first | trivial | rfl | exact ⟨rfl, rfl⟩ | exact ⟨rfl, rfl, fun _ => rfl, Nat.le_of_ble_eq_true rfl, .inl rfl⟩ | exact ⟨rfl, rfl, fun h => (nomatch h), Nat.le_of_ble_eq_true rfl, .inl rfl⟩ | exact ⟨rfl, rfl, fun _ => rfl, Nat.le_of_ble_eq_true rfl, .inr rfl⟩ | exact ⟨rfl, rfl, fun h => (nomatch h), Nat.le_of_ble_eq_true rfl, .inr rfl⟩ | omega | exact ⟨rfl, by (repeat (first | exact fm_nil | refine fm_cons ⟨rfl, rfl⟩ ?_)), Nat.le_of_ble_eq_true rfl, Nat.le_of_ble_eq_true rfl⟩ | (refine ⟨?_, ?_, ?_, ?_, ?_, ?_, ?_⟩ <;> first | omega | exact Nat.le_of_ble_eq_true rfl) | exact ⟨rfl, by omega, by (try simp only [List.length_map, List.length_set]); omega⟩ | exact ⟨rfl, by omega, by simp only [Int.toNat_natCast]; omega, by omega, Nat.le_of_ble_eq_true rfl, rfl⟩⟩)
     refine dg1 T0_ok ?_
     refine dg1 T0_ok ?_ (hs := by intro hb; simp +decide only [hb, gd_tt, gd_ff, beq_self_eq_true, Bool.true_and, beq_true]; exact ⟨_, by first | rfl | exact astep_load_r (by rfl) (by rfl) (by exact i64s_get _ _ (by omega)) (by rfl) | exact astep_load_r (by rfl) (by rfl) (by first | exact bks_get _ _ (by omega) | exact pls_get _ _ (by omega) | exact ints_get _ _ _ (by omega) | exact boolD_get _ _ (by omega) | exact i64ss_get _ _ (by omega) | assumption) (by rfl) | exact astep_store_p (by rfl) (by rfl) (by rfl) (by rfl) (by exact i64s_get _ _ (by omega)), by exact ⟨rfl, by omega, by (try simp only [tabD_len, tabI_len, List.length_map, List.length_cons, List.length_set, List.length_replicate]); omega⟩⟩)
     refine dg1 T0_ok ?_ (hs := by intro hb; simp +decide only [hb, gd_tt, gd_ff, beq_self_eq_true, Bool.true_and, beq_true]; exact ⟨_, by first | rfl | exact astep_load_r (by rfl) (by rfl) (by exact tabI_get _ (by omega)) (by rfl), by first | trivial | rfl | exact ⟨rfl, rfl⟩ | exact ⟨rfl, rfl, fun _ => rfl, Nat.le_of_ble_eq_true rfl, .inl rfl⟩ | exact ⟨rfl, rfl, fun h => (nomatch h), Nat.le_of_ble_eq_true rfl, .inl rfl⟩ | exact ⟨rfl, rfl, fun _ => rfl, Nat.le_of_ble_eq_true rfl, .inr rfl⟩ | exact ⟨rfl, rfl, fun h => (nomatch h), Nat.le_of_ble_eq_true rfl, .inr rfl⟩ | omega | exact ⟨rfl, by (repeat (first | exact fm_nil | refine fm_cons ⟨rfl, rfl⟩ ?_)), Nat.le_of_ble_eq_true rfl, Nat.le_of_ble_eq_true rfl⟩ | (refine ⟨?_, ?_, ?_, ?_, ?_, ?_, ?_⟩ <;> first | omega | exact Nat.le_of_ble_eq_true rfl) | exact ⟨rfl, by omega, by (try simp only [List.length_map, List.length_set]); omega⟩ | exact ⟨rfl, by omega, by simp only [Int.toNat_natCast]; omega, by omega, Nat.le_of_ble_eq_true rfl, rfl⟩⟩)
     refine dg1 T0_ok ?_
     refine d1 T0_ok ?_
     refine dreg_nil ?_
     refine awp_cond rfl (fun h171 => ?_) (fun h171 => ?_)
     ·
      have hyes : cS (wF bs (0 :: hs)) hs.length kp t (t + 1 + s) = true := h171
      refine awp_seq ?_
      refine r1 T0_ok hP hm hN ?_
      iterate 3 refine g1 ?_
      refine g1 ?_ (hpre := by exact ⟨rfl, by omega, by (try simp only [tabD_len, tabI_len, List.length_map, List.length_cons, List.length_set, List.length_replicate]); omega⟩)
      refine g1 ?_ (hs := by first | rfl | exact astep_load_p (by rfl) (by rfl) (by rfl) (by exact hgj) (by rfl))
      refine g1 ?_
      refine ga1 ?_
      refine g1 ?_
      refine awp_seq ?_
      refine r1 T0_ok hP hm hN ?_
      iterate 2 refine g1 ?_
      refine awp_exit ?_
      repeat refine thenA_exit ?_
      refine blockA_miss (by decide) ?_
      repeat refine thenA_exit ?_
      refine blockA_hit ?_
      refine r1 T0_ok hP hm hN ?_
      refine g1 ?_
      refine g1 ?_ (hst := by simp +decide (disch := omega) only [nrm, lk_nrm, dc_nrm, mk_nrm, mf_nrm, ti_nrm, ls_nrm, mp_nrm, nb_nrm, hset, pick_and, pick_or, ↓reduceIte, Nat.reduceAdd, wI64, wI32, wI16, wI8, wU8, List.length_map, Int.toNat_natCast, xn1, xn2, castsub1]; rfl)
      refine g1 ?_
      first
        | (refine ⟨kp, _, by omega, ?_, kp, t, ou, by omega, ht, by omega, (by rw [← trS_miss ht (fun q h1 h2 => hall q h1 (by omega))]; exact htr), rfl, rfl⟩; exact weak_sl (sub_cons rfl (sub_cons rfl (sub_cons rfl (sub_cons rfl (sub_cons rfl (sub_cons rfl (sub_cons rfl (sub_cons rfl (sub_cons rfl (sub_nil)))))))))))
        | (refine ⟨kp, _, by omega, ?_, kp, t + 1 + s, ou ++ [(0 :: hs).getD (t + 1 + s) 0], by omega, by omega, by simp; omega, (by rw [trS_hit hall hyes (by omega) (by omega), List.map_cons] at htr; rw [List.append_assoc]; exact htr), rfl, rfl⟩; rw [i64s_app]; exact Weak.trans (weak_drop 52) (Weak.trans (weak_nx (nx' := 52) (by omega) (by rfl)) (weak_sl (sub_cons rfl (sub_cons rfl (sub_cons rfl (sub_cons rfl (sub_cons rfl (sub_cons rfl (sub_cons rfl (sub_cons rfl (sub_cons rfl (sub_nil)))))))))))))
     ·
      have hno : cS (wF bs (0 :: hs)) hs.length kp t (t + 1 + s) = false := h171
      refine awp_skip ?_
      refine r1 T0_ok hP hm hN ?_
      iterate 3 refine g1 ?_
      exact ⟨hs.length - t - (s + 1), _, by omega, weak_sl (sub_cons rfl (sub_cons rfl (sub_cons rfl (sub_cons rfl (sub_cons rfl (sub_cons rfl (sub_cons rfl (sub_cons rfl (sub_cons rfl (sub_cons rfl (sub_nil))))))))))), s + 1, by omega, (fun q h1 h2 => by
        by_cases e : q = t + 1 + s
        · subst e; exact hno
        · exact hall q h1 (by omega)), by omega, rfl⟩
    ·
     have hgej : ¬ (t + 1 + s < (hs.length + 1)) := by simp only [decide_eq_false_iff_not] at h137; omega
     refine awp_exit ?_
     repeat refine thenA_exit ?_
     refine blockA_hit ?_
     refine r1 T0_ok hP hm hN ?_
     refine g1 ?_
     refine g1 ?_ (hst := by simp +decide (disch := omega) only [nrm, lk_nrm, dc_nrm, mk_nrm, mf_nrm, ti_nrm, ls_nrm, mp_nrm, nb_nrm, hset, pick_and, pick_or, ↓reduceIte, Nat.reduceAdd, wI64, wI32, wI16, wI8, wU8, List.length_map, Int.toNat_natCast, xn1, xn2, castsub1]; rfl)
     refine g1 ?_
     first
       | (refine ⟨kp, _, by omega, ?_, kp, t, ou, by omega, ht, by omega, (by rw [← trS_miss ht (fun q h1 h2 => hall q h1 (by omega))]; exact htr), rfl, rfl⟩; exact weak_sl (sub_cons rfl (sub_cons rfl (sub_cons rfl (sub_cons rfl (sub_cons rfl (sub_cons rfl (sub_cons rfl (sub_cons rfl (sub_cons rfl (sub_nil)))))))))))
       | (refine ⟨kp, _, by omega, ?_, kp, t + 1 + s, ou ++ [(0 :: hs).getD (t + 1 + s) 0], by omega, by omega, by simp; omega, (by rw [trS_hit hall hyes (by omega) (by omega), List.map_cons] at htr; rw [List.append_assoc]; exact htr), rfl, rfl⟩; rw [i64s_app]; exact Weak.trans (weak_drop 52) (Weak.trans (weak_nx (nx' := 52) (by omega) (by rfl)) (weak_sl (sub_cons rfl (sub_cons rfl (sub_cons rfl (sub_cons rfl (sub_cons rfl (sub_cons rfl (sub_cons rfl (sub_cons rfl (sub_cons rfl (sub_nil)))))))))))))
   ·
    obtain rfl : k = 0 := by simp at h130; omega
    rw [trS, List.map_nil, List.append_nil] at htr
    subst htr
    refine awp_exit ?_
    repeat refine thenA_exit ?_
    refine blockA_hit ?_
    refine awp_seq ?_
    refine awp_draw T0_ok hP hm hN Pr_mix [0] [] _ rfl (by rfl) ?_
    iterate 3 refine d1 T0_ok ?_
    refine d1 T0_ok ?_ (hpre := by exact ⟨rfl, by omega, by (try simp only [tabD_len, tabI_len, List.length_map, List.length_cons, List.length_set, List.length_replicate]); omega⟩)
    refine d1 T0_ok ?_ (hs := by first | rfl | exact astep_load_p (by rfl) (by rfl) (by rfl) (by exact (gI_old (rowG (wF bs (0 :: hs)) hs.length) (show cn + 1 ≤ cn + 1 by omega) (show cn < cn + 1 by omega))) (by rfl))
    refine d1 T0_ok ?_ (hpre := by exact ⟨rfl, by omega, by (try simp only [tabD_len, tabI_len, List.length_map, List.length_cons, List.length_set, List.length_replicate]); omega⟩)
    refine d1 T0_ok ?_ (hs := by first | rfl | exact astep_load_r (by rfl) (by rfl) (by exact tabI_get _ (by omega)) (by rfl))
    iterate 2 refine d1 T0_ok ?_
    refine dreg_nil ?_
    refine awp_ret ?_
    refine fin_mk [51] rfl rfl ?_ (objs_cons rfl rfl rfl rfl rfl (.inl rfl) objs_nil) (by decide)
    rfl
end Go.Proofs.YtheoapoddmmahaaGreat.Abs

