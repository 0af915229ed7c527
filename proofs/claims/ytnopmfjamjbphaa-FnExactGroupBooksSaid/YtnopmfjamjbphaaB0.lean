import Derived.Test.YtnopmfjamjbphaaG1
import Derived.Test.YtnopmfjamjbphaaAbsD
set_option linter.unusedVariables false
set_option linter.unusedSimpArgs false
namespace Go.Proofs.Ytnopmfjamjbphaa.Abs
open Go Go.RowKit

/-! ### Rows of rows by a function -/
def tabD (g : Nat → D) (n : Nat) : List (List D) := (List.range n).map fun j => [g j]
theorem tabD_len (g : Nat → D) (n : Nat) : (tabD g n).length = n := by simp [tabD]
theorem tabD_get (g : Nat → D) {n j : Nat} (h : j < n) : (tabD g n)[j]? = some [g j] := by simp [tabD, h]
theorem tabD_congr {g g' : Nat → D} {n : Nat} (h : ∀ j, j < n → g j = g' j) : tabD g n = tabD g' n := by
  unfold tabD
  exact List.map_congr_left (fun j hj => by rw [h j (List.mem_range.1 hj)])
theorem tabD_set (g : Nat → D) (n j : Nat) (d : D) : (tabD g n).set j [d] = tabD (fun q => if q = j then d else g q) n := by
  apply List.ext_getElem
  · simp [tabD]
  · intro i h1 h2
    simp only [tabD, List.getElem_set, List.getElem_map, List.getElem_range]
    by_cases e : j = i
    · subst e; simp
    · rw [if_neg e, if_neg (fun h => e h.symm)]
theorem tabD_rep (d : D) (n : Nat) : List.replicate n [d] = tabD (fun _ => d) n := by
  unfold tabD
  rw [List.map_const', List.length_range]
theorem tabD_map (φ : D → D) (g : Nat → D) (n : Nat) : (tabD g n).map (·.map φ) = tabD (fun j => φ (g j)) n := by simp [tabD]
def tabI (g : Nat → Int) (n : Nat) : List Int := (List.range n).map g
theorem tabI_len (g : Nat → Int) (n : Nat) : (tabI g n).length = n := by simp [tabI]
theorem tabI_get (g : Nat → Int) {n j : Nat} (h : j < n) : (i64s (tabI g n))[j]? = some [.val (.int .i64 (g j))] := by simp [tabI, h]
theorem tabI_congr {g g' : Nat → Int} {n : Nat} (h : ∀ j, j < n → g j = g' j) : tabI g n = tabI g' n := by
  unfold tabI
  exact List.map_congr_left (fun j hj => h j (List.mem_range.1 hj))
def updN {α : Type} (g : Nat → α) (j : Nat) (v : α) : Nat → α := fun q => if q = j then v else g q
theorem tabI_set (g : Nat → Int) (n j : Nat) (v : Int) : (i64s (tabI g n)).set j [.val (.int .i64 v)] = i64s (tabI (updN g j v) n) := by
  apply List.ext_getElem
  · simp [tabI]
  · intro i h1 h2
    simp only [tabI, updN, List.getElem_set, List.getElem_map, List.getElem_range]
    by_cases e : j = i
    · subst e; simp
    · rw [if_neg e, if_neg (fun h => e h.symm)]
theorem updN_twice {α : Type} (g : Nat → α) (j : Nat) (v v' : α) : updN (updN g j v) j v' = updN g j v' := by
  funext q
  unfold updN
  split <;> rfl
theorem tab_step (g : Nat → Int) (n i : Nat) (v v' : Int) : i64s (tabI (updN g i v') n) = (i64s (tabI (updN g i v) n)).set i [.val (.int .i64 v')] := by rw [tabI_set, updN_twice]
theorem tabI_rep (v : Int) (n : Nat) : List.replicate n v = tabI (fun _ => v) n := by
  unfold tabI
  rw [List.map_const', List.length_range]
theorem toNatS (k : Nat) : Int.toNat ((k : Int) + 1) = k + 1 := by omega
theorem castsub1 (k : Nat) : ((k + 1 : Nat) : Int) - 1 = (k : Int) := by omega
/-- The finished rows of a table. -/
def gI (f : Nat → List Int) (k : Nat) : Nat → D := fun j => if j < k then .sl 1 (i64s (f j)) else .nil
def gK (f : Nat → List Int) (k : Nat) (d : D) : Nat → D := fun j => if j < k then .sl 1 (i64s (f j)) else if j = k then d else .nil
theorem gI_set (f : Nat → List Int) (k n : Nat) (d : D) : (tabD (gI f k) n).set k [d] = tabD (gK f k d) n := by
  rw [tabD_set]
  exact tabD_congr (fun j _ => by
    unfold gI gK
    by_cases h : j = k
    · subst h; simp
    · simp [h])
theorem gI_zero (f : Nat → List Int) (n : Nat) : List.replicate n [D.nil] = tabD (gI f 0) n := by
  rw [tabD_rep]
  exact tabD_congr (fun j _ => by simp [gI])
theorem gK_cur (f : Nat → List Int) (d : D) {k n : Nat} (h : k < n) : (tabD (gK f k d) n)[k]? = some [d] := by
  rw [tabD_get _ h]
  simp [gK]
theorem gK_old (f : Nat → List Int) (d : D) {k n j : Nat} (h : k < n) (hj : j < k) : (tabD (gK f k d) n)[j]? = some [.sl 1 (i64s (f j))] := by
  rw [tabD_get _ (by omega)]
  simp [gK, hj]
theorem gI_old (f : Nat → List Int) {k n j : Nat} (h : k ≤ n) (hj : j < k) : (tabD (gI f k) n)[j]? = some [.sl 1 (i64s (f j))] := by
  rw [tabD_get _ (by omega)]
  simp [gI, hj]
theorem kill_tab {g : Nat → D} {n h : Nat} (hg : ∀ j, killC h (g j) = g j) : (tabD g n).map (·.map (killC h)) = tabD g n := by
  rw [tabD_map]
  exact tabD_congr (fun j _ => hg j)
theorem kill_gK {f : Nat → List Int} {k h h' : Nat} (hh : h' ≠ h) (j : Nat) : killC h (gK f k (.own h') j) = gK f k (.own h') j := by
  unfold gK
  split
  · rfl
  · split
    · simp [killC, hh]
    · rfl
/-- A row that was made for a call goes. -/
theorem weak_tmp {C : Ctx} {g : Nat → D} {n h t a r nx : Nat} {A R : List (List D)} {tmp : Ob} {E TE : TypeId} {sl : List (Nat × D)} (hth : t ≠ h) (hah : a ≠ h) (hrh : r ≠ h) (hg : ∀ j, killC h (g j) = g j) :
    Weak C ⟨sl, [(r, ⟨E, 1, false, R⟩), (h, tmp), (t, ⟨TE, 1, true, tabD g n⟩), (a, ⟨E, 1, false, A⟩)], nx⟩ ⟨killSl (some h) sl, [(r, ⟨E, 1, false, R⟩), (t, ⟨TE, 1, true, tabD g n⟩), (a, ⟨E, 1, false, A⟩)], nx⟩ := by
  have h0 := weak_drop (C := C) (nx := nx) (sl := sl) h (hp := [(r, ⟨E, 1, false, R⟩), (h, tmp), (t, ⟨TE, 1, true, tabD g n⟩), (a, ⟨E, 1, false, A⟩)])
  have e : dropHP h [(r, (⟨E, 1, false, R⟩ : Ob)), (h, tmp), (t, ⟨TE, 1, true, tabD g n⟩), (a, ⟨E, 1, false, A⟩)] = [(r, ⟨E, 1, false, R⟩), (t, ⟨TE, 1, true, tabD g n⟩), (a, ⟨E, 1, false, A⟩)] := by
    simp [dropHP, killHP, Ob.kill, hth, hah, hrh, kill_tab hg]
  rw [e] at h0
  exact h0
theorem gI_hf (f : Nat → List Int) (k n : Nat) : ∀ x ∈ tabD (gI f k) n, x.all hf = true := fun x hx => by
  obtain ⟨j, _, rfl⟩ := List.mem_map.1 hx
  unfold gI
  split <;> rfl
/-- A row that is finished is read only from then on. -/
theorem weak_fin {C : Ctx} {f : Nat → List Int} {k n h t a nx nx' : Nat} {A : List (List D)} {r : List Int} {E TE : TypeId} {sl : List (Nat × D)} (hS0 : C.S = []) (hG : ∀ b, C.w0.heap.size ≤ b → C.G b) (hth : t ≠ h) (hah : a ≠ h) (htn : t < nx') (han : a < nx') (hm : C.m ≤ nx') (hr : f k = r) (hsl : frzSl h 1 (i64s r) sl = sl) :
    Weak C ⟨sl, [(h, ⟨E, 1, false, i64s r⟩), (t, ⟨TE, 1, true, tabD (gK f k (.own h)) n⟩), (a, ⟨E, 1, false, A⟩)], nx⟩ ⟨sl, [(t, ⟨TE, 1, true, tabD (gI f (k + 1)) n⟩), (a, ⟨E, 1, false, A⟩)], nx'⟩ := by
  have e : tabD (gI f (k + 1)) n = (tabD (gK f k (.own h)) n).map (·.map (frzC h 1 (i64s r))) := by
    rw [tabD_map]
    refine tabD_congr (fun j _ => ?_)
    unfold gI gK
    by_cases h1 : j < k
    · rw [if_pos h1, if_pos (by omega)]; rfl
    · by_cases h2 : j = k
      · subst h2; rw [if_neg h1, if_pos (by omega), if_pos rfl, hr]; simp [frzC]
      · rw [if_neg h1, if_neg h2, if_neg (by omega)]; rfl
  have h0 := weak_frz (C := C) (nx := nx) (sl := sl) h (hp := [(h, ⟨E, 1, false, i64s r⟩), (t, ⟨TE, 1, true, tabD (gK f k (.own h)) n⟩), (a, ⟨E, 1, false, A⟩)]) hS0 hG (by rw [lk_cons, if_pos rfl]) (.inl rfl)
  simp only [frzHP, if_pos, if_neg hth, if_neg hah, frzO, hsl, ↓reduceIte, Bool.false_eq_true] at h0
  rw [← e] at h0
  exact h0.trans (weak_nx hm (by simp [htn, han]))


/-! ### A family of rows whose handles follow each other -/
theorem weak_lk {C : Ctx} {sl : List (Nat × D)} {hp hp' : HP} {nx : Nat} (e : ∀ k, lk k hp' = lk k hp) : Weak C ⟨sl, hp, nx⟩ ⟨sl, hp', nx⟩ := fun a w ⟨hv, hH, hk, hm, hpn, hS⟩ => by
  have eL : LOf hv hp' = LOf hv hp := by funext k; simp only [LOf, e]
  have eF : FOf C.G hv hp' w = FOf C.G hv hp w := by funext b; simp only [FOf, e]
  refine ⟨hv, ⟨fun k ob hl => ?_, fun k k' ob ob' hl hl' hne => ?_, fun k ob c hl hc => ?_, hH.keeps⟩, fun k ob hl => ?_, hm, fun k ob hl hlt => ?_, ?_⟩
  · simp only at hl ⊢
    rw [eL, eF]
    exact hH.obs k ob (by rw [← e]; exact hl)
  · exact hH.inj k k' ob ob' (by rw [← e]; exact hl) (by rw [← e]; exact hl') hne
  · exact hH.base k ob c (by rw [← e]; exact hl) hc
  · exact hk k ob (by rw [← e]; exact hl)
  · exact hpn k ob (by rw [← e]; exact hl) hlt
  · simp only at hS ⊢
    rw [eL, eF]
    exact hS
def famR (f : Nat → List Int) (E : TypeId) : Nat → Nat → HP
  | _, 0 => []
  | c, n + 1 => (c + 30, ⟨E, 1, false, i64s (f c)⟩) :: famR f E (c + 1) n
theorem lk_famR (f : Nat → List Int) (E : TypeId) : ∀ (n c k : Nat), lk k (famR f E c n) = if c + 30 ≤ k ∧ k < c + 30 + n then some ⟨E, 1, false, i64s (f (k - 30))⟩ else none
  | 0, c, k => by rw [famR, if_neg (by omega)]; rfl
  | n + 1, c, k => by
    rw [famR, lk_cons, lk_famR f E n (c + 1) k]
    by_cases h : k = c + 30
    · subst h
      rw [if_pos rfl, if_pos (by omega), Nat.add_sub_cancel]
    · rw [if_neg h]
      by_cases h2 : c + 30 ≤ k ∧ k < c + 30 + (n + 1)
      · rw [if_pos h2, if_pos (by omega)]
      · rw [if_neg h2, if_neg (by omega)]
theorem all_famR (f : Nat → List Int) (E : TypeId) {x : Nat} : ∀ (n c : Nat), c + 30 + n ≤ x → (famR f E c n).all (fun p => decide (p.1 < x)) = true
  | 0, _, _ => rfl
  | n + 1, c, h => by
    rw [famR, List.all_cons, all_famR f E n (c + 1) (by omega)]
    simp
    omega
theorem kill_fam (f : Nat → List Int) (E : TypeId) (h : Nat) : ∀ (n c : Nat), killHP h (famR f E c n) = famR f E c n
  | 0, _ => rfl
  | n + 1, c => by
    have := kill_fam f E h n (c + 1)
    simp only [killHP] at this
    simp only [famR, killHP, List.map_cons, this]
    rfl
theorem frz_fam (f : Nat → List Int) (E : TypeId) (h sz : Nat) (ys : List (List D)) : ∀ (n c : Nat), (h < c + 30 ∨ c + 30 + n ≤ h) → frzHP h sz ys (famR f E c n) = famR f E c n
  | 0, _, _ => rfl
  | n + 1, c, hh => by
    rw [famR, frzHP, if_neg (by omega), frz_fam f E h sz ys n (c + 1) (by omega)]
    rfl
def hI (c : Nat) : Nat → D := fun j => if j < c then .own (j + 30) else .nil
def hK (c : Nat) (d : D) : Nat → D := fun j => if j < c then .own (j + 30) else if j = c then d else .nil
def uO (F : Nat → List Int) (c : Nat) : Nat → D := fun j => if j < c then .sl 1 (i64s (F j)) else .own (j + 30)
def uK (F : Nat → List Int) (c : Nat) (d : D) : Nat → D := fun j => if j < c then .sl 1 (i64s (F j)) else if j = c then d else .own (j + 30)
theorem hI_zero (n : Nat) : List.replicate n [D.nil] = tabD (hI 0) n := by
  rw [tabD_rep]
  exact tabD_congr (fun j _ => by simp [hI])
theorem hI_set (c n : Nat) (d : D) : (tabD (hI c) n).set c [d] = tabD (hK c d) n := by
  rw [tabD_set]
  exact tabD_congr (fun j _ => by
    unfold hI hK
    by_cases h : j = c
    · subst h; simp
    · simp [h])
theorem hK_cur (d : D) {c n : Nat} (h : c < n) : (tabD (hK c d) n)[c]? = some [d] := by
  rw [tabD_get _ h]
  simp [hK]
theorem uK_cur (F : Nat → List Int) (d : D) {c n : Nat} (h : c < n) : (tabD (uK F c d) n)[c]? = some [d] := by
  rw [tabD_get _ h]
  simp [uK]
theorem uK_old (F : Nat → List Int) (d : D) {c n j : Nat} (h : c < n) (hj : j < c) : (tabD (uK F c d) n)[j]? = some [.sl 1 (i64s (F j))] := by
  rw [tabD_get _ (by omega)]
  simp [uK, hj]
theorem sw_tab (a b : Nat) (g : Nat → D) (n : Nat) (E : TypeId) : swO a b ⟨E, 1, true, tabD g n⟩ = ⟨E, 1, true, tabD (fun j => swC a b (g j)) n⟩ := by
  simp only [swO, if_pos, tabD_map]
/-- A finished row joins the family. -/
theorem weak_fold {C : Ctx} {f : Nat → List Int} {E TE : TypeId} {n c : Nat} {sl : List (Nat × D)} (hc : c < 7) (hm : C.m ≤ 30) (hsl : swSl 50 (c + 30) sl = sl) :
    Weak C ⟨sl, (50, ⟨E, 1, false, i64s (f c)⟩) :: (0, ⟨TE, 1, true, tabD (hK c (.own 50)) n⟩) :: famR f E 0 c, 51⟩ ⟨sl, (0, ⟨TE, 1, true, tabD (hI (c + 1)) n⟩) :: famR f E 0 (c + 1), 50⟩ := by
  have h0 := weak_swap (C := C) 50 (c + 30) (sl := sl) (hp := (50, ⟨E, 1, false, i64s (f c)⟩) :: (0, ⟨TE, 1, true, tabD (hK c (.own 50)) n⟩) :: famR f E 0 c) (nx := 51) (by omega) (by omega) (by omega) (by omega)
  rw [hsl] at h0
  refine h0.trans (Weak.trans (weak_lk (hp' := (0, ⟨TE, 1, true, tabD (hI (c + 1)) n⟩) :: famR f E 0 (c + 1)) fun k => ?_) (weak_nx (by omega) (by rw [List.all_cons, all_famR _ _ _ _ (by omega)]; rfl)))
  rw [lk_swHP]
  simp only [lk_cons, lk_famR]
  by_cases h1 : k = 0
  · subst h1
    rw [if_pos rfl, show swN 50 (c + 30) 0 = 0 by simp [swN], if_neg (by omega), if_pos rfl, Option.map_some, sw_tab]
    congr 2
    refine tabD_congr (fun j _ => ?_)
    unfold hI hK
    by_cases h2 : j < c
    · rw [if_pos (by omega), if_pos h2]
      simp [swC, swN, show j + 30 ≠ 50 by omega, show j ≠ c by omega]
    · by_cases h3 : j = c
      · subst h3; rw [if_pos (by omega), if_neg h2, if_pos rfl]; simp [swC, swN]
      · rw [if_neg (by omega), if_neg h2, if_neg h3]; rfl
  · rw [if_neg h1]
    by_cases h2 : k = c + 30
    · subst h2
      rw [if_pos (by omega), show swN 50 (c + 30) (c + 30) = 50 by unfold swN; rw [if_neg (by omega), if_pos rfl], if_pos rfl, Option.map_some, Nat.add_sub_cancel]
      rfl
    · by_cases h3 : k = 50
      · subst h3
        rw [if_neg (by omega), show swN 50 (c + 30) 50 = c + 30 by simp [swN], if_neg (by omega), if_neg (by omega), if_neg (by omega)]
        rfl
      · rw [show swN 50 (c + 30) k = k by unfold swN; rw [if_neg h3, if_neg h2], if_neg h3, if_neg h1]
        by_cases h4 : 0 + 30 ≤ k ∧ k < 0 + 30 + c
        · rw [if_pos (by omega), if_pos h4]; rfl
        · rw [if_neg (by omega), if_neg h4]; rfl
/-- The first row of the family comes forth. -/
theorem weak_unf {C : Ctx} {f F : Nat → List Int} {E TE : TypeId} {n c k h : Nat} {sl : List (Nat × D)} {X : HP} (hh : 49 < h) (hn : n ≤ 20) (hc : c + 30 + (k + 1) ≤ 50) (hm : C.m ≤ 30) (hX : ∀ q, q < 50 ∨ q = h → lk q X = none) (hXd : ∀ q o, lk q X = some o → o.deep = false) (hXn : X.all (fun p => decide (p.1 < h)) = true) (hsl : swSl h (c + 30) sl = sl) :
    Weak C ⟨sl, X ++ (0, ⟨TE, 1, true, tabD (uO F c) n⟩) :: famR f E c (k + 1), h⟩ ⟨sl, (h, ⟨E, 1, false, i64s (f c)⟩) :: (X ++ (0, ⟨TE, 1, true, tabD (uK F c (.own h)) n⟩) :: famR f E (c + 1) k), h + 1⟩ := by
  have hall : (X ++ (0, (⟨TE, 1, true, tabD (uO F c) n⟩ : Ob)) :: famR f E c (k + 1)).all (fun p => decide (p.1 < h + 1)) = true := by
    rw [List.all_append, List.all_cons, all_famR _ _ _ _ (by omega)]
    simp only [Bool.and_true, Bool.and_eq_true, decide_eq_true_eq]
    refine ⟨List.all_eq_true.2 fun p hp => ?_, by omega⟩
    have := List.all_eq_true.1 hXn p hp
    simp only [decide_eq_true_eq] at this ⊢
    omega
  have h0 := weak_swap (C := C) h (c + 30) (sl := sl) (hp := X ++ (0, ⟨TE, 1, true, tabD (uO F c) n⟩) :: famR f E c (k + 1)) (nx := h + 1) (by omega) (by omega) (by omega) (by omega)
  rw [hsl] at h0
  refine Weak.trans (weak_nx (nx' := h + 1) (by omega) hall) (h0.trans (weak_lk fun q => ?_))
  rw [lk_swHP]
  simp only [lk_append, lk_cons, lk_famR]
  by_cases h1 : q = h
  · subst h1
    rw [if_pos rfl, show swN q (c + 30) q = c + 30 by simp [swN], hX _ (.inl (by omega)), Option.none_or, if_neg (by omega), if_pos (by omega), Option.map_some, Nat.add_sub_cancel]
    rfl
  · rw [if_neg h1]
    by_cases h2 : q = c + 30
    · subst h2
      rw [show swN h (c + 30) (c + 30) = h by unfold swN; rw [if_neg h1, if_pos rfl], hX _ (.inl (by omega)), hX h (.inr rfl), Option.none_or, Option.none_or, if_neg (by omega), if_neg (by omega), if_neg (by omega), if_neg (by omega)]
      rfl
    · rw [show swN h (c + 30) q = q by unfold swN; rw [if_neg h1, if_neg h2]]
      cases hx : lk q X with
      | some o =>
        simp only [Option.some_or, Option.map_some]
        have := hXd q o hx
        simp [swO, this]
      | none =>
        simp only [Option.none_or]
        by_cases h3 : q = 0
        · subst h3
          rw [if_pos rfl, if_pos rfl, Option.map_some, sw_tab]
          congr 2
          refine tabD_congr (fun j hj => ?_)
          unfold uO uK
          by_cases h4 : j < c
          · rw [if_pos h4, if_pos h4]; rfl
          · rw [if_neg h4, if_neg h4]
            by_cases h5 : j = c
            · subst h5; rw [if_pos rfl]; simp only [swC, swN]; rw [if_neg (by omega)]; simp
            · rw [if_neg h5]
              simp only [swC, swN]
              rw [if_neg (by omega), if_neg (by omega)]
        · rw [if_neg h3, if_neg h3]
          by_cases h4 : c + 30 ≤ q ∧ q < c + 30 + (k + 1)
          · rw [if_pos h4, if_pos (by omega)]; rfl
          · rw [if_neg h4, if_neg (by omega)]; rfl
/-- The row that is finished is read only from then on. -/
theorem weak_fin2 {C : Ctx} {f F : Nat → List Int} {E TE : TypeId} {n c k h nx : Nat} {sl : List (Nat × D)} {X : HP} {r : List Int} (hS0 : C.S = []) (hG : ∀ b, C.w0.heap.size ≤ b → C.G b) (hh : 49 < h) (hn : n ≤ 20) (hc : c + 1 + 30 + k ≤ 50) (hm : C.m ≤ 30) (hX : frzHP h 1 (i64s r) X = X) (hXn : X.all (fun p => decide (p.1 < h)) = true) (hr : F c = r) (hsl : frzSl h 1 (i64s r) sl = sl) :
    Weak C ⟨sl, (h, ⟨E, 1, false, i64s r⟩) :: (X ++ (0, ⟨TE, 1, true, tabD (uK F c (.own h)) n⟩) :: famR f E (c + 1) k), nx⟩ ⟨sl, X ++ (0, ⟨TE, 1, true, tabD (uO F (c + 1)) n⟩) :: famR f E (c + 1) k, h⟩ := by
  have e : tabD (uO F (c + 1)) n = (tabD (uK F c (.own h)) n).map (·.map (frzC h 1 (i64s r))) := by
    rw [tabD_map]
    refine tabD_congr (fun j hj => ?_)
    unfold uO uK
    by_cases h1 : j < c
    · rw [if_pos h1, if_pos (by omega)]; rfl
    · by_cases h2 : j = c
      · subst h2; rw [if_neg h1, if_pos (by omega), if_pos rfl, hr]; simp [frzC]
      · rw [if_neg h1, if_neg h2, if_neg (by omega)]
        simp only [frzC]
        rw [if_neg (by omega)]
  have h0 := weak_frz (C := C) (nx := nx) (sl := sl) h (hp := (h, ⟨E, 1, false, i64s r⟩) :: (X ++ (0, ⟨TE, 1, true, tabD (uK F c (.own h)) n⟩) :: famR f E (c + 1) k)) hS0 hG (by rw [lk_cons, if_pos rfl]) (.inl rfl)
  have app : ∀ (l l' : HP), frzHP h 1 (i64s r) (l ++ l') = frzHP h 1 (i64s r) l ++ frzHP h 1 (i64s r) l' := by
    intro l
    induction l with
    | nil => intro l'; rfl
    | cons p l ih =>
      intro l'
      obtain ⟨q, o⟩ := p
      simp only [List.cons_append, frzHP, ih]
      split
      · rfl
      · rfl
  rw [show frzHP h (⟨E, 1, false, i64s r⟩ : Ob).sz (⟨E, 1, false, i64s r⟩ : Ob).xs ((h, ⟨E, 1, false, i64s r⟩) :: (X ++ (0, ⟨TE, 1, true, tabD (uK F c (.own h)) n⟩) :: famR f E (c + 1) k)) = X ++ (0, ⟨TE, 1, true, tabD (uO F (c + 1)) n⟩) :: famR f E (c + 1) k by
    show frzHP h 1 (i64s r) _ = _
    rw [frzHP, if_pos rfl, app, hX, frzHP, if_neg (by omega), frz_fam _ _ _ _ _ _ _ (.inr (by omega)), e]
    rfl] at h0
  rw [show frzSl h (⟨E, 1, false, i64s r⟩ : Ob).sz (⟨E, 1, false, i64s r⟩ : Ob).xs sl = sl from hsl] at h0
  refine h0.trans (weak_nx (by omega) ?_)
  rw [List.all_append, List.all_cons, all_famR _ _ _ _ (by omega), hXn]
  simp only [Bool.and_true, Bool.true_and, decide_eq_true_eq]
  omega
theorem kill_uO (F : Nat → List Int) (c : Nat) {n : Nat} (hn : n ≤ 20) : (tabD (uO F c) n).map (fun x => x.map (killC 50)) = tabD (uO F c) n := by
  rw [tabD_map]
  refine tabD_congr (fun j hj => ?_)
  unfold uO
  split
  · rfl
  · simp only [killC]; rw [if_neg (by omega)]
theorem uO_end (F : Nat → List Int) (n : Nat) : tabD (uO F n) n = tabD (gI F n) n := tabD_congr (fun j hj => by unfold uO gI; rw [if_pos hj, if_pos hj])
theorem uO_start (F : Nat → List Int) (n : Nat) : tabD (hI n) n = tabD (uO F 0) n := tabD_congr (fun j hj => by unfold uO hI; rw [if_pos hj, if_neg (by omega)])


/-! ### Rows that a call hands over -/
def rowsO (f : Nat → List Int) (E : TypeId) : Nat → Nat → List Ob
  | _, 0 => []
  | c, n + 1 => ⟨E, 1, false, i64s (f c)⟩ :: rowsO f E (c + 1) n
theorem rowsO_len (f : Nat → List Int) (E : TypeId) : ∀ (n c : Nat), (rowsO f E c n).length = n
  | 0, _ => rfl
  | n + 1, c => by rw [rowsO, List.length_cons, rowsO_len f E n (c + 1)]
theorem numbered_rows (f : Nat → List Int) (E : TypeId) : ∀ (n c : Nat), numbered (c + 30) (rowsO f E c n) = famR f E c n
  | 0, _ => rfl
  | n + 1, c => by
    rw [rowsO, famR, ← numbered_rows f E n (c + 1), show c + 1 + 30 = c + 30 + 1 by omega]
    rfl
theorem i64s_shC (K : List Nat) (xs : List Int) : (i64s xs).map (·.map (shC K)) = i64s xs := by
  simp [shC]
theorem rowsO_sh (K : List Nat) (f : Nat → List Int) (E : TypeId) : ∀ (n c : Nat), (rowsO f E c n).map (shO K) = rowsO f E c n
  | 0, _ => rfl
  | n + 1, c => by
    rw [rowsO, List.map_cons, rowsO_sh K f E n (c + 1)]
    show (⟨E, 1, false, (i64s (f c)).map (·.map (shC K))⟩ : Ob) :: _ = _
    rw [i64s_shC]
theorem rowsO_mem {f : Nat → List Int} {E : TypeId} {o : Ob} : ∀ (n c : Nat), o ∈ rowsO f E c n → ∃ xs, o = ⟨E, 1, false, i64s xs⟩
  | 0, _, h => by cases h
  | n + 1, c, h => by
    rw [rowsO] at h
    rcases List.mem_cons.1 h with h | h
    · exact ⟨_, h⟩
    · exact rowsO_mem n (c + 1) h
theorem renXs_i64s (ks : List Nat) : ∀ xs : List Int, renXs ks (i64s xs) = some (i64s xs)
  | [] => rfl
  | x :: xs => by
    show (match renCL ks [D.val (.int .i64 x)], renXs ks (i64s xs) with | some y, some ys => some (y :: ys) | _, _ => none) = _
    rw [renXs_i64s ks xs]
    rfl
theorem okG_rows {f : Nat → List Int} {E TE : TypeId} {k : Nat} : ∀ o ∈ (⟨TE, 1, true, tabD (fun j => .own (j + 1)) k⟩ : Ob) :: rowsO f E 0 k, okG (k + 1) o := fun o ho => by
  rcases List.mem_cons.1 ho with h | h
  · subst h
    intro x hx d hd
    obtain ⟨j, hj, rfl⟩ := List.mem_map.1 hx
    simp only [List.mem_singleton] at hd
    subst hd
    exact ⟨by have := List.mem_range.1 hj; omega, rfl⟩
  · obtain ⟨xs, rfl⟩ := rowsO_mem _ _ h
    intro x hx d hd
    obtain ⟨z, _, rfl⟩ := List.mem_map.1 hx
    simp only [List.mem_singleton] at hd
    subst hd
    trivial
theorem outer_sh (TE : TypeId) (k : Nat) : shO (List.range' 29 (k + 1)) ⟨TE, 1, true, tabD (fun j => .own (j + 1)) k⟩ = ⟨TE, 1, true, tabD (fun j => .own (j + 30)) k⟩ := by
  show (⟨TE, 1, true, (tabD (fun j => D.own (j + 1)) k).map (·.map (shC (List.range' 29 (k + 1))))⟩ : Ob) = _
  rw [tabD_map]
  congr 1
  refine tabD_congr (fun j hj => ?_)
  show D.own _ = D.own _
  rw [List.getD, List.getElem?_range' (by omega)]
  simp
  omega
theorem numbered_outer (f : Nat → List Int) (E TE : TypeId) (k : Nat) : numbered 29 ((((⟨TE, 1, true, tabD (fun j => .own (j + 1)) k⟩ : Ob) :: rowsO f E 0 k)).map (shO (List.range' 29 (k + 1)))) = (29, ⟨TE, 1, true, tabD (uO f 0) k⟩) :: famR f E 0 k := by
  rw [List.map_cons, rowsO_sh, outer_sh]
  show (29, (⟨TE, 1, true, tabD (fun j => D.own (j + 30)) k⟩ : Ob)) :: numbered (0 + 30) (rowsO f E 0 k) = _
  rw [numbered_rows]
  congr 3
/-- Rows that were handed over are read only from then on. -/
theorem weak_frzR {C : Ctx} {f : Nat → List Int} {E TE : TypeId} {k nx : Nat} {sl : List (Nat × D)} {hp : HP} (hS0 : C.S = []) (hG : ∀ b, C.w0.heap.size ≤ b → C.G b) (hk : k ≤ 6) (hm : C.m ≤ 30) (hsl : ∀ c xs, c < 6 → frzSl (c + 30) 1 (i64s xs) sl = sl) (hhp : ∀ c xs, c < 6 → frzHP (c + 30) 1 (i64s xs) hp = hp) (hnx : hp.all (fun p => decide (p.1 < 30)) = true) :
    Weak C ⟨sl, (29, ⟨TE, 1, true, tabD (uO f 0) k⟩) :: (famR f E 0 k ++ hp), nx⟩ ⟨sl, (29, ⟨TE, 1, false, tabD (gI f k) k⟩) :: hp, 30⟩ := by
  have app : ∀ (h sz : Nat) (ys : List (List D)) (l l' : HP), frzHP h sz ys (l ++ l') = frzHP h sz ys l ++ frzHP h sz ys l' := by
    intro h sz ys l
    induction l with
    | nil => intro l'; rfl
    | cons p l ih =>
      intro l'
      obtain ⟨q, o⟩ := p
      simp only [List.cons_append, frzHP, ih]
      split
      · rfl
      · rfl
  have step : ∀ n c, c + n = k → Weak C ⟨sl, (29, ⟨TE, 1, true, tabD (uO f c) k⟩) :: (famR f E c n ++ hp), nx⟩ ⟨sl, (29, ⟨TE, 1, true, tabD (uO f k) k⟩) :: hp, nx⟩ := by
    intro n
    induction n with
    | zero =>
      intro c hc
      rw [show c = k by omega]
      exact Weak.refl _ _
    | succ n ih =>
      intro c hc
      refine Weak.trans ?_ (ih (c + 1) (by omega))
      have h0 := weak_frz (C := C) (nx := nx) (sl := sl) (c + 30) (hp := (29, ⟨TE, 1, true, tabD (uO f c) k⟩) :: (famR f E c (n + 1) ++ hp)) (ob := ⟨E, 1, false, i64s (f c)⟩) hS0 hG (by rw [lk_cons, if_neg (by omega), famR, List.cons_append, lk_cons, if_pos rfl]) (.inl rfl)
      rw [show frzSl (c + 30) (⟨E, 1, false, i64s (f c)⟩ : Ob).sz (⟨E, 1, false, i64s (f c)⟩ : Ob).xs sl = sl from hsl c _ (by omega)] at h0
      rw [show frzHP (c + 30) (⟨E, 1, false, i64s (f c)⟩ : Ob).sz (⟨E, 1, false, i64s (f c)⟩ : Ob).xs ((29, ⟨TE, 1, true, tabD (uO f c) k⟩) :: (famR f E c (n + 1) ++ hp)) = (29, ⟨TE, 1, true, tabD (uO f (c + 1)) k⟩) :: (famR f E (c + 1) n ++ hp) by
        show frzHP (c + 30) 1 (i64s (f c)) _ = _
        rw [frzHP, if_neg (by omega), famR, List.cons_append, frzHP, if_pos rfl, app, frz_fam _ _ _ _ _ _ _ (.inl (by omega)), hhp c _ (by omega)]
        show (29, (⟨TE, 1, true, (tabD (uO f c) k).map (·.map (frzC (c + 30) 1 (i64s (f c))))⟩ : Ob)) :: _ = _
        rw [tabD_map]
        congr 3
        refine tabD_congr (fun j hj => ?_)
        unfold uO
        by_cases h1 : j < c
        · rw [if_pos h1, if_pos (by omega)]; rfl
        · by_cases h2 : j = c
          · subst h2; rw [if_neg h1, if_pos (by omega)]; simp [frzC]
          · rw [if_neg h1, if_neg (by omega)]
            simp only [frzC]
            rw [if_neg (by omega)]] at h0
      exact h0
  refine Weak.trans (step k 0 (by omega)) ?_
  rw [uO_end]
  refine Weak.trans (weak_deep (C := C) 29 false (ob := ⟨TE, 1, true, tabD (gI f k) k⟩) (by rw [lk_cons, if_pos rfl]) (fun _ _ => gI_hf _ _ _)) ?_
  rw [hset, if_pos rfl]
  refine weak_nx hm ?_
  rw [List.all_cons, hnx]; rfl
/-- How many rows. -/
noncomputable def kG (hs : List Int) (bs : List Bk) : Nat := if ask (allG hs bs) then hs.length else 0
noncomputable def okR (hs : List Int) (bs : List Bk) : Bool := ask (allG hs bs)
abbrev rwG (hs : List Int) (bs : List Bk) : Nat → List Int := fun c => selK (gF hs bs) c bs.length
theorem kG_le (hs : List Int) (bs : List Bk) : kG hs bs ≤ hs.length := by unfold kG; split <;> omega
theorem grpL_tab (hs : List Int) (bs : List Bk) : i64ss (grpL hs bs) = tabD (gI (rwG hs bs) hs.length) hs.length := by
  rw [grpL, grpF, tabD]
  simp only [List.map_map]
  refine List.map_congr_left (fun j hj => ?_)
  simp [gI, List.mem_range.1 hj]
end Go.Proofs.Ytnopmfjamjbphaa.Abs
