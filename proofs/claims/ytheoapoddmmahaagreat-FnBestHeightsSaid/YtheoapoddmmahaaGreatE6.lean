import Derived.Test.YtheoapoddmmahaaGreatE5
set_option linter.unusedVariables false
set_option linter.unusedSimpArgs false
namespace Go.Proofs.YtheoapoddmmahaaGreat.Abs
open Go Go.RowKit

abbrev BIG : Int := 1099511627776
def mnI (w p : Nat → Int) (j0 : Nat) : Nat → Int
  | 0 => BIG
  | s + 1 => min (mnI w p j0 s) (w (j0 + s) + p (j0 + s))
def mnS (w p : Nat → Int) (j0 : Nat) : Nat → Int
  | 0 => -1
  | s + 1 => if (decide (p (j0 + s) ≥ 0) && (decide (mnS w p j0 s < 0) || decide (w (j0 + s) + p (j0 + s) < mnS w p j0 s))) = true then w (j0 + s) + p (j0 + s) else mnS w p j0 s
def FI (W : Nat → Nat → Int) (m : Nat) : Nat → Nat → Int
  | 0, i => if i = m then 0 else BIG
  | k + 1, i => mnI (W i) (FI W m k) (i + 1) (m - i)
def FS (W : Nat → Nat → Int) (m : Nat) : Nat → Nat → Int
  | 0, i => if i = m then 0 else -1
  | k + 1, i => mnS (W i) (FS W m k) (i + 1) (m - i)
def Tie (b x y : Int) : Prop := (x = BIG ∧ y = -1) ∨ (x = y ∧ 0 ≤ y ∧ y ≤ b)
theorem mn_tie {w p q : Nat → Int} {j0 : Nat} {c d : Int} (hw : ∀ j, 0 ≤ w j ∧ w j ≤ c) (hcd : c + d < BIG) (hd : 0 ≤ d) : ∀ s, (∀ t, t < s → Tie d (p (j0 + t)) (q (j0 + t))) → Tie (c + d) (mnI w p j0 s) (mnS w q j0 s)
  | 0, _ => .inl ⟨rfl, rfl⟩
  | s + 1, h => by
    have ih := mn_tie (j0 := j0) hw hcd hd s (fun t ht => h t (by omega))
    have h1 := h s (by omega)
    have h2 := hw (j0 + s)
    have hB : (1 : Int) ≤ BIG := by decide
    simp only [mnI, mnS, Bool.and_eq_true, Bool.or_eq_true, decide_eq_true_eq]
    unfold Tie at *
    rcases h1 with ⟨e1, e2⟩ | ⟨e1, e2, e3⟩ <;> rcases ih with ⟨f1, f2⟩ | ⟨f1, f2, f3⟩ <;> split <;> omega
theorem F_tie {W : Nat → Nat → Int} {m : Nat} {c : Int} (hW : ∀ i j, 0 ≤ W i j ∧ W i j ≤ c) (hc : 0 ≤ c) (hcB : 7 * c < BIG) : ∀ k : Nat, k ≤ 6 → ∀ i, Tie (k * c) (FI W m k i) (FS W m k i)
  | 0, _, i => by
    simp only [FI, FS, Tie]
    split <;> simp
  | k + 1, hk, i => by
    have ih := F_tie (m := m) hW hc hcB k (by omega)
    have hkc : (k : Int) * c ≤ 5 * c := Int.mul_le_mul_of_nonneg_right (by omega) hc
    have h0 : 0 ≤ (k : Int) * c := Int.mul_nonneg (by omega) hc
    have h := mn_tie (w := W i) (j0 := i + 1) (hW i) (show c + k * c < BIG by omega) h0 (m - i) (fun t _ => ih _)
    rw [show c + (k : Int) * c = ((k + 1 : Nat) : Int) * c by rw [Int.natCast_add, Int.add_mul]; simp; omega] at h
    exact h
theorem mnI_b {w p : Nat → Int} {j0 : Nat} (hw : ∀ j, 0 ≤ w j) (hp : ∀ j, 0 ≤ p j) : ∀ s, 0 ≤ mnI w p j0 s ∧ mnI w p j0 s ≤ BIG
  | 0 => by simp [mnI]
  | s + 1 => by
    have ih := mnI_b (j0 := j0) hw hp s
    have h1 := hw (j0 + s)
    have h2 := hp (j0 + s)
    simp only [mnI]
    omega
theorem FI_b {W : Nat → Nat → Int} {m : Nat} (hW : ∀ i j, 0 ≤ W i j) : ∀ k i, 0 ≤ FI W m k i ∧ FI W m k i ≤ BIG
  | 0, i => by unfold FI; split <;> simp
  | k + 1, i => mnI_b (hW i) (fun j => (FI_b hW k j).1) _
theorem mnS_b {w p : Nat → Int} {j0 : Nat} {c d : Int} (hw : ∀ j, 0 ≤ w j ∧ w j ≤ c) (hp : ∀ j, -1 ≤ p j ∧ p j ≤ d) (hcd : 0 ≤ c + d) : ∀ s, -1 ≤ mnS w p j0 s ∧ mnS w p j0 s ≤ c + d
  | 0 => by simp [mnS]; omega
  | s + 1 => by
    have ih := mnS_b (j0 := j0) hw hp hcd s
    have h1 := hw (j0 + s)
    have h2 := hp (j0 + s)
    simp only [mnS, Bool.and_eq_true, Bool.or_eq_true, decide_eq_true_eq]
    split <;> omega
theorem FS_b {W : Nat → Nat → Int} {m : Nat} {c : Int} (hW : ∀ i j, 0 ≤ W i j ∧ W i j ≤ c) (hc : 0 ≤ c) : ∀ (k i : Nat), -1 ≤ FS W m k i ∧ FS W m k i ≤ k * c
  | 0, i => by unfold FS; split <;> simp
  | k + 1, i => by
    have h := mnS_b (p := FS W m k) (j0 := i + 1) (hW i) (fun j => FS_b hW hc k j) (by have : 0 ≤ (k : Int) * c := Int.mul_nonneg (by omega) hc; omega) (m - i)
    rw [show c + (k : Int) * c = ((k + 1 : Nat) : Int) * c by rw [Int.natCast_add, Int.add_mul]; simp; omega] at h
    exact h
def fj (p : Nat → Bool) (j : Nat) : Nat → Nat
  | 0 => j
  | s + 1 => if p j = true then j else fj p (j + 1) s
theorem fj_le (p : Nat → Bool) : ∀ (s j : Nat), j ≤ fj p j s ∧ fj p j s ≤ j + s
  | 0, j => by simp [fj]
  | s + 1, j => by
    have := fj_le p s (j + 1)
    simp only [fj]
    split <;> omega
theorem fj_at {p : Nat → Bool} : ∀ {s j i : Nat}, (∀ q, j ≤ q → q < i → p q = false) → p i = true → j ≤ i → i < j + s → fj p j s = i
  | 0, j, i, _, _, _, _ => by omega
  | s + 1, j, i, h, hp, h1, h2 => by
    simp only [fj]
    by_cases e : j = i
    · subst e; rw [if_pos hp]
    · rw [if_neg (by rw [h j (Nat.le_refl _) (by omega)]; simp)]
      exact fj_at (fun q hq => h q (by omega)) hp (by omega) (by omega)
theorem fj_none {p : Nat → Bool} : ∀ {s j : Nat}, (∀ q, j ≤ q → q < j + s → p q = false) → fj p j s = j + s
  | 0, j, _ => rfl
  | s + 1, j, h => by
    simp only [fj]
    rw [if_neg (by rw [h j (Nat.le_refl _) (by omega)]; simp), fj_none (fun q h1 h2 => h q (by omega) (by omega))]
    omega
theorem fj_ok {p : Nat → Bool} : ∀ {s j : Nat}, fj p j s < j + s → p (fj p j s) = true
  | 0, j, h => by simp [fj] at h
  | s + 1, j, h => by
    simp only [fj] at h ⊢
    split
    · assumption
    · rename_i hn
      rw [if_neg hn] at h
      exact fj_ok (by omega)
theorem fj_congr {p q : Nat → Bool} : ∀ {s j : Nat}, (∀ i, j ≤ i → i < j + s → p i = q i) → fj p j s = fj q j s
  | 0, j, _ => rfl
  | s + 1, j, h => by
    simp only [fj]
    rw [h j (Nat.le_refl _) (by omega), fj_congr (fun i h1 h2 => h i (by omega) (by omega))]
abbrev cI (W : Nat → Nat → Int) (m k a : Nat) (j : Nat) : Bool := W a j + FI W m k j == FI W m (k + 1) a
abbrev cS (W : Nat → Nat → Int) (m k a : Nat) (j : Nat) : Bool := decide (FS W m k j ≥ 0) && (W a j + FS W m k j == FS W m (k + 1) a)
def trI (W : Nat → Nat → Int) (m : Nat) : Nat → Nat → List Nat
  | 0, _ => []
  | k + 1, a => if fj (cI W m k a) (a + 1) (m - a) ≤ m then fj (cI W m k a) (a + 1) (m - a) :: trI W m k (fj (cI W m k a) (a + 1) (m - a)) else trI W m k a
def trS (W : Nat → Nat → Int) (m : Nat) : Nat → Nat → List Nat
  | 0, _ => []
  | k + 1, a => if fj (cS W m k a) (a + 1) (m - a) ≤ m then fj (cS W m k a) (a + 1) (m - a) :: trS W m k (fj (cS W m k a) (a + 1) (m - a)) else trS W m k a
theorem mnS_hit {w p : Nat → Int} {j0 : Nat} : ∀ s, 0 ≤ mnS w p j0 s → ∃ t, t < s ∧ 0 ≤ p (j0 + t) ∧ w (j0 + t) + p (j0 + t) = mnS w p j0 s
  | 0, h => by simp [mnS] at h
  | s + 1, h => by
    simp only [mnS] at h ⊢
    split
    · rename_i hc
      simp only [Bool.and_eq_true, decide_eq_true_eq] at hc
      exact ⟨s, by omega, hc.1, rfl⟩
    · rename_i hc
      rw [if_neg hc] at h
      obtain ⟨t, h1, h2, h3⟩ := mnS_hit s h
      exact ⟨t, by omega, h2, h3⟩
theorem mnS_pos {w p : Nat → Int} {j0 : Nat} (hw : ∀ j, 0 ≤ w j) : ∀ s t, t < s → 0 ≤ p (j0 + t) → 0 ≤ mnS w p j0 s
  | s + 1, t, h, hp => by
    have h1 := hw (j0 + s)
    simp only [mnS, Bool.and_eq_true, Bool.or_eq_true, decide_eq_true_eq]
    by_cases e : t = s
    · subst e
      split <;> omega
    · have ih := mnS_pos (j0 := j0) hw s t (by omega) hp
      split <;> omega
theorem FS_pos {W : Nat → Nat → Int} {m : Nat} (hW : ∀ i j, 0 ≤ W i j) : ∀ k a, 1 ≤ k → a + k ≤ m → 0 ≤ FS W m k a
  | 1, a, _, h => by
    refine mnS_pos (hW a) _ (m - a - 1) (by omega) ?_
    rw [show a + 1 + (m - a - 1) = m by omega]
    simp [FS]
  | k + 2, a, _, h => mnS_pos (hW a) _ 0 (by omega) (FS_pos hW (k + 1) (a + 1) (by omega) (by omega))
theorem tr_eq {W : Nat → Nat → Int} {m : Nat} {c : Int} (hW : ∀ i j, 0 ≤ W i j ∧ W i j ≤ c) (hc : 0 ≤ c) (hcB : 7 * c < BIG) : ∀ k a, k ≤ 6 → a ≤ m → 0 ≤ FS W m k a →
    trI W m k a = trS W m k a ∧ (trS W m k a).length = k ∧ (∀ j ∈ trS W m k a, a < j ∧ j ≤ m) ∧ (trS W m k a).Pairwise (· < ·) ∧ (a = m ∨ m ∈ trS W m k a) ∧ (k = 0 → a = m)
  | 0, a, _, ha, h0 => by
    have e : a = m := by
      unfold FS at h0
      split at h0
      · assumption
      · omega
    simp [trI, trS, e]
  | k + 1, a, hk, ha, h0 => by
    obtain ⟨t, h1, h2, h3⟩ := mnS_hit _ h0
    have hti := F_tie (m := m) hW hc hcB
    have e0 : FI W m (k + 1) a = FS W m (k + 1) a ∧ FS W m (k + 1) a < BIG := by
      have hkc : ((k + 1 : Nat) : Int) * c ≤ 6 * c := Int.mul_le_mul_of_nonneg_right (by omega) hc
      rcases hti (k + 1) hk a with h | ⟨h, _, h'⟩
      · omega
      · exact ⟨h, by omega⟩
    have ec : ∀ j, cI W m k a j = cS W m k a j := fun j => by
      have hj := hti k (by omega) j
      have hw := hW a j
      simp only [cI, cS, e0.1]
      rcases hj with ⟨f1, f2⟩ | ⟨f1, f2, f3⟩
      · rw [f1, f2]
        simp
        omega
      · rw [f1]
        simp [f2]
    have ef : fj (cI W m k a) (a + 1) (m - a) = fj (cS W m k a) (a + 1) (m - a) := fj_congr (fun j _ _ => ec j)
    have hlt : fj (cS W m k a) (a + 1) (m - a) ≤ m := by
      by_cases hn : fj (cS W m k a) (a + 1) (m - a) ≤ m
      · exact hn
      · exfalso
        have hle := (fj_le (cS W m k a) (m - a) (a + 1)).2
        have hno : fj (cS W m k a) (a + 1) (m - a) = a + 1 + (m - a) := by omega
        have hall : ∀ q, a + 1 ≤ q → q < a + 1 + (m - a) → cS W m k a q = false := fun q h4 h5 => by
          cases hq : cS W m k a q with
          | false => rfl
          | true =>
            exfalso
            -- the first that is so is no later than q
            have key : ∀ (s j : Nat), j ≤ q → q < j + s → fj (cS W m k a) j s ≤ q := by
              intro s
              induction s with
              | zero => intro j _ _; omega
              | succ s ih =>
                intro j h6 h7
                simp only [fj]
                split
                · omega
                · rename_i hnj
                  have : j ≠ q := fun e => hnj (e ▸ hq)
                  exact ih (j + 1) (by omega) (by omega)
            have := key (m - a) (a + 1) h4 h5
            omega
        have h6 := hall (a + 1 + t) (by omega) (by omega)
        have h7 : cS W m k a (a + 1 + t) = true := by
          simp only [cS, Bool.and_eq_true, decide_eq_true_eq, beq_iff_eq]
          exact ⟨h2, h3⟩
        rw [h6] at h7
        cases h7
    have hok := fj_ok (p := cS W m k a) (s := m - a) (j := a + 1) (by omega)
    simp only [cS, Bool.and_eq_true, decide_eq_true_eq] at hok
    have hge := (fj_le (cS W m k a) (m - a) (a + 1)).1
    obtain ⟨i1, i2, i3, i4, i5, i6⟩ := tr_eq hW hc hcB k _ (by omega) hlt hok.1
    have eS : trS W m (k + 1) a = fj (cS W m k a) (a + 1) (m - a) :: trS W m k (fj (cS W m k a) (a + 1) (m - a)) := by rw [trS, if_pos hlt]
    have eI : trI W m (k + 1) a = fj (cI W m k a) (a + 1) (m - a) :: trI W m k (fj (cI W m k a) (a + 1) (m - a)) := by rw [trI, if_pos (by rw [ef]; exact hlt)]
    rw [eS, eI, ef, i1]
    refine ⟨rfl, by simp [i2], fun j hj => ?_, List.pairwise_cons.2 ⟨fun j hj => (i3 j hj).1, i4⟩, .inr ?_, fun h => by omega⟩
    · rcases List.mem_cons.1 hj with rfl | hj
      · exact ⟨by omega, hlt⟩
      · have := i3 j hj
        exact ⟨by omega, this.2⟩
    · rcases i5 with h | h
      · exact List.mem_cons.2 (.inl h.symm)
      · exact List.mem_cons.2 (.inr h)


/-! ### Rows of rows by a function -/
def tabD (g : Nat → D) (n : Nat) : List (List D) := (List.range n).map fun j => [g j]
theorem tabD_len (g : Nat → D) (n : Nat) : (tabD g n).length = n := by simp [tabD]
theorem tabD_get (g : Nat → D) {n j : Nat} (h : j < n) : (tabD g n)[j]? = some [g j] := by simp [tabD, h]
theorem tabD_congr {g g' : Nat → D} {n : Nat} (h : ∀ j, j < n → g j = g' j) : tabD g n = tabD g' n := by
  unfold tabD
  exact List.map_congr_left (fun j hj => by rw [h j (List.mem_range.1 hj)])
theorem tabD_set (g : Nat → D) (n j : Nat) (d : D) : (tabD g n).set j [d] = tabD (fun q => if q = j then d else g q) n := by
  apply List.ext_getElem
  · simp [tabD]
  · intro i h1 h2
    simp only [tabD, List.getElem_set, List.getElem_map, List.getElem_range]
    by_cases e : j = i
    · subst e; simp
    · rw [if_neg e, if_neg (fun h => e h.symm)]
theorem tabD_rep (d : D) (n : Nat) : List.replicate n [d] = tabD (fun _ => d) n := by
  unfold tabD
  rw [List.map_const', List.length_range]
theorem tabD_map (φ : D → D) (g : Nat → D) (n : Nat) : (tabD g n).map (·.map φ) = tabD (fun j => φ (g j)) n := by simp [tabD]
def tabI (g : Nat → Int) (n : Nat) : List Int := (List.range n).map g
theorem tabI_len (g : Nat → Int) (n : Nat) : (tabI g n).length = n := by simp [tabI]
theorem tabI_get (g : Nat → Int) {n j : Nat} (h : j < n) : (i64s (tabI g n))[j]? = some [.val (.int .i64 (g j))] := by simp [tabI, h]
theorem tabI_congr {g g' : Nat → Int} {n : Nat} (h : ∀ j, j < n → g j = g' j) : tabI g n = tabI g' n := by
  unfold tabI
  exact List.map_congr_left (fun j hj => h j (List.mem_range.1 hj))
def updN {α : Type} (g : Nat → α) (j : Nat) (v : α) : Nat → α := fun q => if q = j then v else g q
theorem tabI_set (g : Nat → Int) (n j : Nat) (v : Int) : (i64s (tabI g n)).set j [.val (.int .i64 v)] = i64s (tabI (updN g j v) n) := by
  apply List.ext_getElem
  · simp [tabI]
  · intro i h1 h2
    simp only [tabI, updN, List.getElem_set, List.getElem_map, List.getElem_range]
    by_cases e : j = i
    · subst e; simp
    · rw [if_neg e, if_neg (fun h => e h.symm)]
theorem updN_twice {α : Type} (g : Nat → α) (j : Nat) (v v' : α) : updN (updN g j v) j v' = updN g j v' := by
  funext q
  unfold updN
  split <;> rfl
theorem tab_step (g : Nat → Int) (n i : Nat) (v v' : Int) : i64s (tabI (updN g i v') n) = (i64s (tabI (updN g i v) n)).set i [.val (.int .i64 v')] := by rw [tabI_set, updN_twice]
theorem tabI_rep (v : Int) (n : Nat) : List.replicate n v = tabI (fun _ => v) n := by
  unfold tabI
  rw [List.map_const', List.length_range]
theorem toNatS (k : Nat) : Int.toNat ((k : Int) + 1) = k + 1 := by omega
theorem castsub1 (k : Nat) : ((k + 1 : Nat) : Int) - 1 = (k : Int) := by omega
def gI (f : Nat → List Int) (k : Nat) : Nat → D := fun j => if j < k then .sl 1 (i64s (f j)) else .nil
def gK (f : Nat → List Int) (k : Nat) (d : D) : Nat → D := fun j => if j < k then .sl 1 (i64s (f j)) else if j = k then d else .nil
theorem gI_set (f : Nat → List Int) (k n : Nat) (d : D) : (tabD (gI f k) n).set k [d] = tabD (gK f k d) n := by
  rw [tabD_set]
  exact tabD_congr (fun j _ => by
    unfold gI gK
    by_cases h : j = k
    · subst h; simp
    · simp [h])
theorem gI_zero (f : Nat → List Int) (n : Nat) : List.replicate n [D.nil] = tabD (gI f 0) n := by
  rw [tabD_rep]
  exact tabD_congr (fun j _ => by simp [gI])
theorem gK_cur (f : Nat → List Int) (d : D) {k n : Nat} (h : k < n) : (tabD (gK f k d) n)[k]? = some [d] := by
  rw [tabD_get _ h]
  simp [gK]
theorem gK_old (f : Nat → List Int) (d : D) {k n j : Nat} (h : k < n) (hj : j < k) : (tabD (gK f k d) n)[j]? = some [.sl 1 (i64s (f j))] := by
  rw [tabD_get _ (by omega)]
  simp [gK, hj]
theorem gI_old (f : Nat → List Int) {k n j : Nat} (h : k ≤ n) (hj : j < k) : (tabD (gI f k) n)[j]? = some [.sl 1 (i64s (f j))] := by
  rw [tabD_get _ (by omega)]
  simp [gI, hj]
theorem kill_tab {g : Nat → D} {n h : Nat} (hg : ∀ j, killC h (g j) = g j) : (tabD g n).map (·.map (killC h)) = tabD g n := by
  rw [tabD_map]
  exact tabD_congr (fun j _ => hg j)
theorem kill_gK {f : Nat → List Int} {k h h' : Nat} (hh : h' ≠ h) (j : Nat) : killC h (gK f k (.own h') j) = gK f k (.own h') j := by
  unfold gK
  split
  · rfl
  · split
    · simp [killC, hh]
    · rfl
theorem weak_tmp {C : Ctx} {g : Nat → D} {n h t a r nx : Nat} {A R : List (List D)} {tmp : Ob} {E TE : TypeId} {sl : List (Nat × D)} (hth : t ≠ h) (hah : a ≠ h) (hrh : r ≠ h) (hg : ∀ j, killC h (g j) = g j) :
    Weak C ⟨sl, [(r, ⟨E, 1, false, R⟩), (h, tmp), (t, ⟨TE, 1, true, tabD g n⟩), (a, ⟨E, 1, false, A⟩)], nx⟩ ⟨killSl (some h) sl, [(r, ⟨E, 1, false, R⟩), (t, ⟨TE, 1, true, tabD g n⟩), (a, ⟨E, 1, false, A⟩)], nx⟩ := by
  have h0 := weak_drop (C := C) (nx := nx) (sl := sl) h (hp := [(r, ⟨E, 1, false, R⟩), (h, tmp), (t, ⟨TE, 1, true, tabD g n⟩), (a, ⟨E, 1, false, A⟩)])
  have e : dropHP h [(r, (⟨E, 1, false, R⟩ : Ob)), (h, tmp), (t, ⟨TE, 1, true, tabD g n⟩), (a, ⟨E, 1, false, A⟩)] = [(r, ⟨E, 1, false, R⟩), (t, ⟨TE, 1, true, tabD g n⟩), (a, ⟨E, 1, false, A⟩)] := by
    simp [dropHP, killHP, Ob.kill, hth, hah, hrh, kill_tab hg]
  rw [e] at h0
  exact h0
theorem gI_hf (f : Nat → List Int) (k n : Nat) : ∀ x ∈ tabD (gI f k) n, x.all hf = true := fun x hx => by
  obtain ⟨j, _, rfl⟩ := List.mem_map.1 hx
  unfold gI
  split <;> rfl
theorem weak_fin {C : Ctx} {f : Nat → List Int} {k n h t a nx nx' : Nat} {A : List (List D)} {r : List Int} {E TE : TypeId} {sl : List (Nat × D)} (hS0 : C.S = []) (hG : ∀ b, C.w0.heap.size ≤ b → C.G b) (hth : t ≠ h) (hah : a ≠ h) (htn : t < nx') (han : a < nx') (hm : C.m ≤ nx') (hr : f k = r) (hsl : frzSl h 1 (i64s r) sl = sl) :
    Weak C ⟨sl, [(h, ⟨E, 1, false, i64s r⟩), (t, ⟨TE, 1, true, tabD (gK f k (.own h)) n⟩), (a, ⟨E, 1, false, A⟩)], nx⟩ ⟨sl, [(t, ⟨TE, 1, true, tabD (gI f (k + 1)) n⟩), (a, ⟨E, 1, false, A⟩)], nx'⟩ := by
  have e : tabD (gI f (k + 1)) n = (tabD (gK f k (.own h)) n).map (·.map (frzC h 1 (i64s r))) := by
    rw [tabD_map]
    refine tabD_congr (fun j _ => ?_)
    unfold gI gK
    by_cases h1 : j < k
    · rw [if_pos h1, if_pos (by omega)]; rfl
    · by_cases h2 : j = k
      · subst h2; rw [if_neg h1, if_pos (by omega), if_pos rfl, hr]; simp [frzC]
      · rw [if_neg h1, if_neg h2, if_neg (by omega)]; rfl
  have h0 := weak_frz (C := C) (nx := nx) (sl := sl) h (hp := [(h, ⟨E, 1, false, i64s r⟩), (t, ⟨TE, 1, true, tabD (gK f k (.own h)) n⟩), (a, ⟨E, 1, false, A⟩)]) hS0 hG (by rw [lk_cons, if_pos rfl]) (.inl rfl)
  simp only [frzHP, if_pos, if_neg hth, if_neg hah, frzO, hsl, ↓reduceIte, Bool.false_eq_true] at h0
  rw [← e] at h0
  exact h0.trans (weak_nx hm (by simp [htn, han]))


noncomputable abbrev alI (a b : Int) (bs : List Bk) : List Int := 0 :: htsI a b bs
abbrev wF (bs : List Bk) (al : List Int) (i j : Nat) : Int := wOn bs (al.getD i 0) (al.getD j 0) bs.length
noncomputable abbrev WB (a b : Int) (bs : List Bk) : Nat → Nat → Int := wF bs (alI a b bs)
noncomputable def bestL (a b : Int) (bs : List Bk) (cn : Nat) : List Int := (trI (WB a b bs) (htsI a b bs).length cn 0).map (fun j => (alI a b bs).getD j 0)
noncomputable def bestV (a b : Int) (bs : List Bk) (cn : Nat) : Int := FI (WB a b bs) (htsI a b bs).length cn 0
def okAl (al : List Int) : Prop := ∀ x ∈ al, 0 ≤ x ∧ x ≤ 1000
theorem al_b {al : List Int} (h : okAl al) (i : Nat) : 0 ≤ al.getD i 0 ∧ al.getD i 0 ≤ 1000 := by
  by_cases hi : i < al.length
  · exact h _ (getD_mem' hi)
  · rw [List.getD, List.getElem?_eq_none (by omega)]; simp
theorem wF_b {bs : List Bk} {al : List Int} (ho : ∀ b ∈ bs, okB2 b) (hl : bs.length ≤ 60) (h : okAl al) (i j : Nat) : 0 ≤ wF bs al i j ∧ wF bs al i j ≤ 6000000 := by
  have := wOn_b (low := al.getD i 0) ho (al_b h j).2 bs.length (Nat.le_refl _)
  show 0 ≤ wOn bs (al.getD i 0) (al.getD j 0) bs.length ∧ wOn bs (al.getD i 0) (al.getD j 0) bs.length ≤ 6000000
  omega
theorem htsI_ok {a b c : Int} {bs : List Bk} (hok : pegsOk a b c = true) (ho : ∀ b ∈ bs, okB2 b) : okAl (alI a b bs) := fun x hx => by
  rcases List.mem_cons.1 hx with rfl | hx
  · omega
  · rw [htsI, setI_mem, List.mem_map] at hx
    obtain ⟨y, hy, rfl⟩ := hx
    obtain ⟨ha, hb, _⟩ := pegsOk_iff.1 hok
    have h1 := pegH_bounds (a := a) (b := b) (high := y.high) (by omega)
    have h2 := (ho y hy).2
    omega
def rowN (W : Nat → Nat → Int) (m k i : Nat) : Nat → Int := fun q => if q < i then FI W m k q else BIG
theorem mnI_s (w p : Nat → Int) (j0 s : Nat) : mnI w p j0 (s + 1) = if w (j0 + s) + p (j0 + s) < mnI w p j0 s then w (j0 + s) + p (j0 + s) else mnI w p j0 s := by
  simp only [mnI]
  omega
abbrev rowF (W : Nat → Nat → Int) (m : Nat) (k : Nat) : List Int := tabI (FI W m k) (m + 1)
theorem row_next {W : Nat → Nat → Int} {m kp i : Nat} : tabI (updN (rowN W m (kp + 1) i) i (mnI (W i) (FI W m kp) (i + 1) (m - i))) (m + 1) = tabI (rowN W m (kp + 1) (i + 1)) (m + 1) := by
  refine tabI_congr (fun q hq => ?_)
  unfold updN rowN
  by_cases h1 : q = i
  · subst h1; rw [if_pos rfl, if_pos (by omega)]; rfl
  · rw [if_neg h1]
    by_cases h2 : q < i
    · rw [if_pos h2, if_pos (by omega)]
    · rw [if_neg h2, if_neg (by omega)]
theorem row_end {W : Nat → Nat → Int} {m k : Nat} : tabI (rowN W m k (m + 1)) (m + 1) = rowF W m k := tabI_congr (fun q hq => by unfold rowN; rw [if_pos hq])
theorem row_first {W : Nat → Nat → Int} {m : Nat} (i : Nat) : tabI (rowN W m (i + 1) 0) (m + 1) = List.replicate (m + 1) BIG := by
  rw [tabI_rep]
  exact tabI_congr (fun q hq => by unfold rowN; rw [if_neg (by omega)])
theorem row_zero {W : Nat → Nat → Int} {m : Nat} : (i64s (List.replicate (m + 1) BIG)).set m [.val (.int .i64 0)] = i64s (rowF W m 0) := by
  rw [tabI_rep, tabI_set]
  congr 1
  try exact tabI_congr (fun q hq => by unfold updN; rw [FI])
theorem updN_self {W : Nat → Nat → Int} {m k i : Nat} : rowN W m (k + 1) i = updN (rowN W m (k + 1) i) i (mnI (W i) (FI W m k) (i + 1) 0) := by
  funext q
  unfold updN rowN
  by_cases h : q = i
  · subst h; rw [if_neg (by omega), if_pos rfl]; rfl
  · rw [if_neg h]
theorem trI_hit {W : Nat → Nat → Int} {m k a j : Nat} (h1 : ∀ q, a + 1 ≤ q → q < j → cI W m k a q = false) (h2 : cI W m k a j = true) (h3 : a < j) (h4 : j ≤ m) : trI W m (k + 1) a = j :: trI W m k j := by
  have e := fj_at (s := m - a) h1 h2 (by omega) (by omega)
  rw [trI, e, if_pos h4]
theorem trI_miss {W : Nat → Nat → Int} {m k a : Nat} (ha : a ≤ m) (h1 : ∀ q, a + 1 ≤ q → q < m + 1 → cI W m k a q = false) : trI W m (k + 1) a = trI W m k a := by
  have e := fj_none (s := m - a) (j := a + 1) (fun q h2 h3 => h1 q h2 (by omega))
  rw [trI, e, if_neg (by omega)]

noncomputable abbrev s_I_Pegs_bestHeights : Spec ((Int × Int × Int) × List Bk × Nat) where
  args := fun x => [pegs x.1, .sl 8 (bks x.2.1), .val (.int .i64 ((x.2.2 : Nat) : Int))]
  pre := fun x => (pegsOk x.1.1 x.1.2.1 x.1.2.2 = true ∧ isPegs x.1 ∧ (∀ b ∈ x.2.1, isBk b) ∧ (∀ b ∈ x.2.1, okB2 b) ∧ x.2.1.length ≤ 60) ∧ 1 ≤ x.2.2 ∧ x.2.2 ≤ 6
  new := fun x => [⟨2, 1, false, i64s (bestL x.1.1 x.1.2.1 x.2.1 x.2.2)⟩]
  res := fun x => .tup [.own 0, .val (.int .i64 (bestV x.1.1 x.1.2.1 x.2.1 x.2.2))]

set_option maxRecDepth 20000 in
set_option maxHeartbeats 16000000 in
theorem ok_I_Pegs_bestHeights : FnOk Pr 32 s_I_Pegs_bestHeights := by
 refine fn_ok0 3 T0_ok Go.Proofs.Tryz.func32 rfl (enters_of Go.Proofs.Tryz.func32 rfl rfl) (fun _ => rfl) (fun _ => rfl) (fun _ => rfl) ?_
 rintro ⟨⟨a, b, c⟩, bs, cn⟩ ⟨⟨hok, hp, hv, ho, hl⟩, hcn1, hcn6⟩ C hP hN hm hG hS0
 change awp C _ _ ⟨[(0, .val (.agg #[.int .i16 a, .int .i16 b, .int .i16 c])), (1, .sl 8 (bks bs)), (2, .val (.int .i64 (cn : Nat)))], [], 0⟩
 simp only at hok hv ho hl hcn1 hcn6
 have hml := htsI_len a b bs
 have hal := htsI_ok hok ho
 have hW0 : ∀ i j, 0 ≤ (WB a b bs) i j := fun i j => (wF_b ho hl hal i j).1
 refine awp_seq ?_
 refine r1 T0_ok hP hm hN ?_
 iterate 3 refine g1 ?_
 refine awp_seq ?_
 refine r1 T0_ok hP hm hN ?_
 iterate 3 refine g1 ?_
 refine gc1 ?_ (call1 ok_I_Pegs_heightsOf ((_, _, _), _) [] (hpre := by (try dsimp only); exact ⟨hok, hp, hv, by omega⟩))
 refine ga1 ?_
 refine g1 ?_
 refine awp_seq ?_
 refine awp_weak (show Weak C _ ⟨[(8, .own 1), (1, .sl 8 (bks bs)), (2, .val (.int .i64 (cn : Nat)))], [(1, ⟨2, 1, false, i64s ((alI a b bs))⟩)], 3⟩ from Weak.trans (weak_drop 0) (Weak.trans (weak_drop 2) (Weak.trans (weak_nx (nx' := 3) (by omega) (by rfl)) (weak_sl (sub_cons rfl (sub_cons rfl (sub_cons rfl (sub_nil)))))))) ?_
 refine r1 T0_ok hP hm hN ?_
 refine g1 ?_
 refine g1 ?_ (hst := by simp +decide (disch := omega) only [nrm, lk_nrm, dc_nrm, mk_nrm, mf_nrm, ti_nrm, ls_nrm, mp_nrm, nb_nrm, hset, pick_and, pick_or, ↓reduceIte, Nat.reduceAdd, wI64, wI32, wI16, wI8, wU8, List.length_map, Int.toNat_natCast, xn1, xn2, List.length_cons, List.length_map]; rfl)
 refine g1 ?_
 refine awp_seq ?_
 refine r1 T0_ok hP hm hN ?_
 iterate 2 refine g1 ?_
 refine g1 ?_ (hst := by simp +decide (disch := omega) only [nrm, lk_nrm, dc_nrm, mk_nrm, mf_nrm, ti_nrm, ls_nrm, mp_nrm, nb_nrm, hset, pick_and, pick_or, ↓reduceIte, Nat.reduceAdd, wI64, wI32, wI16, wI8, wU8, List.length_map, Int.toNat_natCast, xn1, xn2, toNatS]; rfl)
 refine g1 ?_
 refine awp_seq ?_
 refine awp_seq ?_
 refine r1 T0_ok hP hm hN ?_
 refine g1 ?_
 refine g1 ?_ (hst := by simp +decide (disch := omega) only [nrm, lk_nrm, dc_nrm, mk_nrm, mf_nrm, ti_nrm, ls_nrm, mp_nrm, nb_nrm, hset, pick_and, pick_or, ↓reduceIte, Nat.reduceAdd, wI64, wI32, wI16, wI8, wU8, List.length_map, Int.toNat_natCast, xn1, xn2, List.length_replicate]; rfl)
 refine g1 ?_
 refine awp_block ?_
 refine awp_loop (fun n st => ∃ k : Nat, k ≤ (cn + 1) ∧ n = (cn + 1) - k ∧ st = ⟨[(30, .val (.int .i64 (k : Nat))), (29, .val (.int .i64 (cn + 1 : Nat))), (10, .own 3), (8, .own 1), (9, .val (.int .i64 ((htsI a b bs).length + 1 : Nat))), (1, .sl 8 (bks bs)), (2, .val (.int .i64 (cn : Nat)))], [(3, ⟨31, 1, true, tabD (gI (rowF (WB a b bs) (htsI a b bs).length) k) (cn + 1)⟩), (1, ⟨2, 1, false, i64s ((alI a b bs))⟩)], 4⟩) ((cn + 1)) ⟨_, (by rw [← gI_zero]; exact Weak.trans (weak_deep 3 true rfl (fun h => by cases h)) (weak_sl (sub_cons rfl (sub_cons rfl (sub_cons rfl (sub_cons rfl (sub_cons rfl (sub_cons rfl (sub_cons rfl (sub_nil)))))))))), 0, by omega, rfl, rfl⟩ ?_
 rintro n st ⟨k, hik, hnk, rfl⟩
 refine awp_seq ?_
 refine r1 T0_ok hP hm hN ?_
 refine g1 ?_
 refine awp_seq ?_
 refine awp_cond rfl (fun hc0 => ?_) (fun hc0 => ?_)
 ·
  have hltk : k < cn + 1 := by simp only [decide_eq_true_eq] at hc0; omega
  refine awp_skip ?_
  refine awp_seq ?_
  refine awp_block ?_
  refine awp_seq ?_
  refine r1 T0_ok hP hm hN ?_
  iterate 2 refine g1 ?_
  refine awp_seq ?_
  refine r1 T0_ok hP hm hN ?_
  iterate 4 refine g1 ?_
  refine gc1 ?_ (call1 ok_slices_Repeat_int64_int64 (BIG, (htsI a b bs).length + 1) [] (hpre := by (try dsimp only); exact ⟨by omega, by omega⟩))
  refine g1 ?_ (hpre := by exact ⟨rfl, by omega, by (try simp only [tabD_len, tabI_len, List.length_map, List.length_cons, List.length_set, List.length_replicate]); omega⟩)
  refine g1 ?_ (hs := by exact astep_store_p (by rfl) (by rfl) (by rfl) (by rfl) (by exact tabD_get _ (by omega)))
  refine awp_seq ?_
  refine awp_seq ?_
  refine awp_weak (show Weak C _ ⟨[(11, .val (.int .i64 (k : Nat))), (30, .val (.int .i64 (k : Nat))), (29, .val (.int .i64 (cn + 1 : Nat))), (10, .own 3), (8, .own 1), (9, .val (.int .i64 ((htsI a b bs).length + 1 : Nat))), (1, .sl 8 (bks bs)), (2, .val (.int .i64 (cn : Nat)))], [(5, ⟨2, 1, false, i64s (List.replicate ((htsI a b bs).length + 1) BIG)⟩), (3, ⟨31, 1, true, tabD (gK (rowF (WB a b bs) (htsI a b bs).length) k (.own 5)) (cn + 1)⟩), (1, ⟨2, 1, false, i64s ((alI a b bs))⟩)], 6⟩ from by rw [← gI_set]; exact Weak.trans (by rw [gI_set]; exact weak_tmp (by decide) (by decide) (by decide) (kill_gK (by decide))) (weak_sl (sub_cons rfl (sub_cons rfl (sub_cons rfl (sub_cons rfl (sub_cons rfl (sub_cons rfl (sub_cons rfl (sub_cons rfl (sub_nil))))))))))) ?_
  refine r1 T0_ok hP hm hN ?_
  iterate 2 refine g1 ?_
  refine awp_cond rfl (fun hc1 => ?_) (fun hc1 => ?_)
  ·
   have hk0 : k = 0 := by simp at hc1; omega
   subst hk0
   have hT0 := gK_cur (rowF (WB a b bs) (htsI a b bs).length) (.own 5) (show 0 < cn + 1 by omega)
   refine awp_seq ?_
   refine r1 T0_ok hP hm hN ?_
   iterate 2 refine g1 ?_
   refine g1 ?_ (hpre := by exact ⟨rfl, by omega, by (try simp only [tabD_len, tabI_len, List.length_map, List.length_cons, List.length_set, List.length_replicate]); omega⟩)
   refine g1 ?_ (hs := by first | rfl | exact astep_load_p (by rfl) (by rfl) (by rfl) (by exact hT0) (by rfl))
   refine g1 ?_
   refine g1 ?_ (hst := by simp +decide (disch := omega) only [nrm, lk_nrm, dc_nrm, mk_nrm, mf_nrm, ti_nrm, ls_nrm, mp_nrm, nb_nrm, hset, pick_and, pick_or, ↓reduceIte, Nat.reduceAdd, wI64, wI32, wI16, wI8, wU8, List.length_map, Int.toNat_natCast, xn1, xn2, castsub1]; rfl)
   refine g1 ?_ (hpre := by exact ⟨rfl, by omega, by (try simp only [tabD_len, tabI_len, List.length_map, List.length_cons, List.length_set, List.length_replicate]); omega⟩)
   refine g1 ?_ (hs := by exact astep_store_p (by rfl) (by rfl) (by rfl) (by rfl) (by exact i64s_get _ _ (by simp only [List.length_replicate]; omega))) (hst := by simp +decide (disch := omega) only [nrm, lk_nrm, dc_nrm, mk_nrm, mf_nrm, ti_nrm, ls_nrm, mp_nrm, nb_nrm, hset, pick_and, pick_or, ↓reduceIte, Nat.reduceAdd, wI64, wI32, wI16, wI8, wU8, List.length_map, Int.toNat_natCast, xn1, xn2, row_zero (W := (WB a b bs))]; rfl)
   refine awp_exit ?_
   repeat refine thenA_exit ?_
   refine blockA_hit ?_
   refine r1 T0_ok hP hm hN ?_
   iterate 2 refine g1 ?_
   first
     | (refine ⟨cn + 1 - (kp + 1 + 1), _, by omega, ?_, kp + 1 + 1, by omega, rfl, rfl⟩; exact Weak.trans (weak_sl (sub_cons rfl (sub_cons rfl (sub_cons rfl (sub_cons rfl (sub_cons rfl (sub_cons rfl (sub_cons rfl (sub_nil))))))))) (weak_fin (h := 5) (t := 3) (a := 1) (nx' := 4) hS0 hG (by decide) (by decide) (by decide) (by decide) (by omega) rfl rfl))
     | (refine ⟨cn + 1 - (0 + 1), _, by omega, ?_, 0 + 1, by omega, rfl, rfl⟩; exact Weak.trans (weak_sl (sub_cons rfl (sub_cons rfl (sub_cons rfl (sub_cons rfl (sub_cons rfl (sub_cons rfl (sub_cons rfl (sub_nil))))))))) (weak_fin (h := 5) (t := 3) (a := 1) (nx' := 4) hS0 hG (by decide) (by decide) (by decide) (by decide) (by omega) rfl rfl))
  ·
   obtain ⟨kp, rfl⟩ : ∃ kp, k = kp + 1 := ⟨k - 1, by simp at hc1; omega⟩
   refine awp_skip ?_
   refine awp_seq ?_
   refine r1 T0_ok hP hm hN ?_
   iterate 2 refine g1 ?_
   refine awp_block ?_
   refine awp_loop (fun n st => ∃ i : Nat, i ≤ ((htsI a b bs).length + 1) ∧ n = ((htsI a b bs).length + 1) - i ∧ st = ⟨[(49, .val (.int .i64 (i : Nat))), (48, .val (.int .i64 ((htsI a b bs).length + 1 : Nat))), (11, .val (.int .i64 (kp + 1 : Nat))), (30, .val (.int .i64 (kp + 1 : Nat))), (29, .val (.int .i64 (cn + 1 : Nat))), (10, .own 3), (8, .own 1), (9, .val (.int .i64 ((htsI a b bs).length + 1 : Nat))), (1, .sl 8 (bks bs)), (2, .val (.int .i64 (cn : Nat)))], [(5, ⟨2, 1, false, i64s (tabI (rowN (WB a b bs) (htsI a b bs).length (kp + 1) i) ((htsI a b bs).length + 1))⟩), (3, ⟨31, 1, true, tabD (gK (rowF (WB a b bs) (htsI a b bs).length) (kp + 1) (.own 5)) (cn + 1)⟩), (1, ⟨2, 1, false, i64s ((alI a b bs))⟩)], 6⟩) (((htsI a b bs).length + 1)) ⟨_, (by rw [row_first]; exact weak_sl (sub_cons rfl (sub_cons rfl (sub_cons rfl (sub_cons rfl (sub_cons rfl (sub_cons rfl (sub_cons rfl (sub_cons rfl (sub_cons rfl (sub_cons rfl (sub_nil)))))))))))), 0, by omega, rfl, rfl⟩ ?_
   rintro n st ⟨i, hii, hni, rfl⟩
   refine awp_seq ?_
   refine r1 T0_ok hP hm hN ?_
   refine g1 ?_
   refine awp_seq ?_
   refine awp_cond rfl (fun hc2 => ?_) (fun hc2 => ?_)
   ·
    have hlti : i < ((htsI a b bs).length + 1) := by simp only [decide_eq_true_eq] at hc2; omega
    refine awp_skip ?_
    refine awp_seq ?_
    refine awp_block ?_
    refine awp_seq ?_
    refine r1 T0_ok hP hm hN ?_
    iterate 2 refine g1 ?_
    refine awp_seq ?_
    refine r1 T0_ok hP hm hN ?_
    iterate 3 refine g1 ?_
    refine awp_block ?_
    refine awp_loop (fun K st => ∃ s : Nat, i + 1 + s ≤ ((htsI a b bs).length + 1) ∧ K = (htsI a b bs).length - i - s ∧ st = ⟨[(13, .val (.int .i64 (i + 1 + s : Nat))), (12, .val (.int .i64 (i : Nat))), (49, .val (.int .i64 (i : Nat))), (48, .val (.int .i64 ((htsI a b bs).length + 1 : Nat))), (11, .val (.int .i64 (kp + 1 : Nat))), (30, .val (.int .i64 (kp + 1 : Nat))), (29, .val (.int .i64 (cn + 1 : Nat))), (10, .own 3), (8, .own 1), (9, .val (.int .i64 ((htsI a b bs).length + 1 : Nat))), (1, .sl 8 (bks bs)), (2, .val (.int .i64 (cn : Nat)))], [(5, ⟨2, 1, false, i64s (tabI (updN (rowN (WB a b bs) (htsI a b bs).length (kp + 1) i) i (mnI ((WB a b bs) i) (FI (WB a b bs) (htsI a b bs).length kp) (i + 1) s)) ((htsI a b bs).length + 1))⟩), (3, ⟨31, 1, true, tabD (gK (rowF (WB a b bs) (htsI a b bs).length) (kp + 1) (.own 5)) (cn + 1)⟩), (1, ⟨2, 1, false, i64s ((alI a b bs))⟩)], 6⟩) ((htsI a b bs).length - i) ⟨_, (by rw [← updN_self]; exact weak_sl (sub_cons rfl (sub_cons rfl (sub_cons rfl (sub_cons rfl (sub_cons rfl (sub_cons rfl (sub_cons rfl (sub_cons rfl (sub_cons rfl (sub_cons rfl (sub_cons rfl (sub_cons rfl (sub_nil)))))))))))))), 0, by omega, by omega, rfl⟩ ?_
    rintro K st ⟨s, hs1, hKs, rfl⟩
    refine awp_seq ?_
    refine awp_seq ?_
    refine r1 T0_ok hP hm hN ?_
    iterate 3 refine g1 ?_
    refine awp_cond rfl (fun hc3 => ?_) (fun hc3 => ?_)
    ·
     have hltj : i + 1 + s < ((htsI a b bs).length + 1) := by simp only [decide_eq_true_eq] at hc3; omega
     have hTc := gK_cur (rowF (WB a b bs) (htsI a b bs).length) (.own 5) (show kp + 1 < cn + 1 by omega)
     have hTo := gK_old (rowF (WB a b bs) (htsI a b bs).length) (.own 5) (show kp + 1 < cn + 1 by omega) (show kp < kp + 1 by omega)
     have hWb : 0 ≤ wOn bs ((alI a b bs).getD i 0) ((alI a b bs).getD (i + 1 + s) 0) bs.length ∧ wOn bs ((alI a b bs).getD i 0) ((alI a b bs).getD (i + 1 + s) 0) bs.length ≤ 6000000 := wF_b ho hl hal i (i + 1 + s)
     have hFb : 0 ≤ FI (WB a b bs) (htsI a b bs).length kp (i + 1 + s) ∧ FI (WB a b bs) (htsI a b bs).length kp (i + 1 + s) ≤ 1099511627776 := FI_b hW0 kp (i + 1 + s)
     have hai := al_b hal i
     have haj := al_b hal (i + 1 + s)
     have hgi := i64s_get (alI a b bs) i (by simp only [List.length_cons]; omega)
     have hgj := i64s_get (alI a b bs) (i + 1 + s) (by simp only [List.length_cons]; omega)
     refine awp_skip ?_
     refine awp_seq ?_
     refine awp_block ?_
     refine awp_drawS T0_ok hP hm hN Pr_mix [0, 1, 2, 3, 4, 5, 6, 7, 8, 9, 10, 11] [21] 32 _ rfl rfl rfl (by rfl) ?_
     iterate 2 refine d1 T0_ok ?_
     refine d1 T0_ok ?_ (hpre := by exact ⟨rfl, by omega, by (try simp only [tabD_len, tabI_len, List.length_map, List.length_cons, List.length_set, List.length_replicate]); omega⟩)
     refine d1 T0_ok ?_ (hs := by first | rfl | exact astep_load_p (by rfl) (by rfl) (by rfl) (by exact hTc) (by rfl))
     iterate 3 refine d1 T0_ok ?_
     refine d1 T0_ok ?_ (hpre := by exact ⟨rfl, by omega, by (try simp only [tabD_len, tabI_len, List.length_map, List.length_cons, List.length_set, List.length_replicate]); omega⟩)
     refine d1 T0_ok ?_ (hs := by first | rfl | exact astep_load_p (by rfl) (by rfl) (by rfl) (by exact hTc) (by rfl))
     refine d1 T0_ok ?_
     refine d1 T0_ok ?_ (hpre := by exact ⟨rfl, by omega, by (try simp only [tabD_len, tabI_len, List.length_map, List.length_cons, List.length_set, List.length_replicate]); omega⟩)
     refine d1 T0_ok ?_ (hs := by first | rfl | exact astep_load_p (by rfl) (by rfl) (by rfl) (by exact tabI_get _ (by omega)) (by rfl)) (hdn := by simp +decide (disch := omega) only [nrm, lk_nrm, dc_nrm, mk_nrm, mf_nrm, ti_nrm, ls_nrm, mp_nrm, nb_nrm, hset, pick_and, pick_or, ↓reduceIte, Nat.reduceAdd, wI64, wI32, wI16, wI8, wU8, List.length_map, Int.toNat_natCast, xn1, xn2, mask_nrm, updN, ↓reduceIte]; rfl) (hsl := by simp +decide (disch := omega) only [nrm, lk_nrm, dc_nrm, mk_nrm, mf_nrm, ti_nrm, ls_nrm, mp_nrm, nb_nrm, hset, pick_and, pick_or, ↓reduceIte, Nat.reduceAdd, wI64, wI32, wI16, wI8, wU8, List.length_map, Int.toNat_natCast, xn1, xn2, mask_nrm, updN, ↓reduceIte]; rfl)
     iterate 3 refine d1 T0_ok ?_
     refine d1 T0_ok ?_ (hpre := by exact ⟨rfl, by omega, by (try simp only [tabD_len, tabI_len, List.length_map, List.length_cons, List.length_set, List.length_replicate]); omega⟩)
     refine d1 T0_ok ?_ (hs := by first | rfl | exact astep_load_p (by rfl) (by rfl) (by rfl) (by exact hgi) (by rfl))
     iterate 2 refine d1 T0_ok ?_
     refine d1 T0_ok ?_ (hpre := by exact ⟨rfl, by omega, by (try simp only [tabD_len, tabI_len, List.length_map, List.length_cons, List.length_set, List.length_replicate]); omega⟩)
     refine d1 T0_ok ?_ (hs := by first | rfl | exact astep_load_p (by rfl) (by rfl) (by rfl) (by exact hgj) (by rfl))
     refine dp1 ?_ (call1 ok_I_wasteOn (_, _, _) [] (hpre := by (try dsimp only); exact ⟨⟨hv, ho, hl⟩, haj⟩))
     iterate 2 refine d1 T0_ok ?_
     refine d1 T0_ok ?_ (hdn := by simp +decide (disch := omega) only [nrm, lk_nrm, dc_nrm, mk_nrm, mf_nrm, ti_nrm, ls_nrm, mp_nrm, nb_nrm, hset, pick_and, pick_or, ↓reduceIte, Nat.reduceAdd, wI64, wI32, wI16, wI8, wU8, List.length_map, Int.toNat_natCast, xn1, xn2, mask_nrm, castsub1]; rfl) (hsl := by simp +decide (disch := omega) only [nrm, lk_nrm, dc_nrm, mk_nrm, mf_nrm, ti_nrm, ls_nrm, mp_nrm, nb_nrm, hset, pick_and, pick_or, ↓reduceIte, Nat.reduceAdd, wI64, wI32, wI16, wI8, wU8, List.length_map, Int.toNat_natCast, xn1, xn2, mask_nrm, castsub1]; rfl)
     refine d1 T0_ok ?_ (hpre := by exact ⟨rfl, by omega, by (try simp only [tabD_len, tabI_len, List.length_map, List.length_cons, List.length_set, List.length_replicate]); omega⟩)
     refine d1 T0_ok ?_ (hs := by first | rfl | exact astep_load_p (by rfl) (by rfl) (by rfl) (by exact hTo) (by rfl))
     refine d1 T0_ok ?_
     refine d1 T0_ok ?_ (hpre := by exact ⟨rfl, by omega, by (try simp only [tabD_len, tabI_len, List.length_map, List.length_cons, List.length_set, List.length_replicate]); omega⟩)
     refine d1 T0_ok ?_ (hs := by first | rfl | exact astep_load_r (by rfl) (by rfl) (by exact tabI_get _ (by omega)) (by rfl))
     iterate 2 refine d1 T0_ok ?_
     refine dreg_nil ?_
     refine g1 ?_ (hpre := by exact ⟨rfl, by omega, by (try simp only [tabD_len, tabI_len, List.length_map, List.length_cons, List.length_set, List.length_replicate]); omega⟩)
     refine g1 ?_ (hs := by exact astep_store_p (by rfl) (by rfl) (by rfl) (by rfl) (by exact tabI_get _ (by omega)))
     refine r1 T0_ok hP hm hN ?_
     iterate 3 refine g1 ?_
     exact ⟨(htsI a b bs).length - i - (s + 1), _, by omega, (by rw [tab_step _ _ i (mnI ((WB a b bs) i) (FI (WB a b bs) (htsI a b bs).length kp) (i + 1) s) (mnI ((WB a b bs) i) (FI (WB a b bs) (htsI a b bs).length kp) (i + 1) (s + 1)), mnI_s]; exact weak_sl (sub_cons rfl (sub_cons rfl (sub_cons rfl (sub_cons rfl (sub_cons rfl (sub_cons rfl (sub_cons rfl (sub_cons rfl (sub_cons rfl (sub_cons rfl (sub_cons rfl (sub_cons rfl (sub_nil)))))))))))))), s + 1, by omega, by omega, rfl⟩
    ·
     have hgej : ¬ i + 1 + s < ((htsI a b bs).length + 1) := by simp only [decide_eq_false_iff_not] at hc3; omega
     obtain rfl : s = (htsI a b bs).length - i := by omega
     rw [row_next]
     refine awp_exit ?_
     repeat refine thenA_exit ?_
     refine blockA_hit ?_
     refine r1 T0_ok hP hm hN ?_
     iterate 2 refine g1 ?_
     refine ⟨((htsI a b bs).length + 1) - (i + 1), _, by omega, weak_sl (sub_cons rfl (sub_cons rfl (sub_cons rfl (sub_cons rfl (sub_cons rfl (sub_cons rfl (sub_cons rfl (sub_cons rfl (sub_cons rfl (sub_cons rfl (sub_nil))))))))))), i + 1, by omega, rfl, rfl⟩
   ·
    have hgei : ¬ i < ((htsI a b bs).length + 1) := by simp only [decide_eq_false_iff_not] at hc2; omega
    obtain rfl : i = ((htsI a b bs).length + 1) := by omega
    rw [row_end]
    refine awp_exit ?_
    repeat refine thenA_exit ?_
    refine blockA_hit ?_
    refine r1 T0_ok hP hm hN ?_
    iterate 2 refine g1 ?_
    first
      | (refine ⟨cn + 1 - (kp + 1 + 1), _, by omega, ?_, kp + 1 + 1, by omega, rfl, rfl⟩; exact Weak.trans (weak_sl (sub_cons rfl (sub_cons rfl (sub_cons rfl (sub_cons rfl (sub_cons rfl (sub_cons rfl (sub_cons rfl (sub_nil))))))))) (weak_fin (h := 5) (t := 3) (a := 1) (nx' := 4) hS0 hG (by decide) (by decide) (by decide) (by decide) (by omega) rfl rfl))
      | (refine ⟨cn + 1 - (0 + 1), _, by omega, ?_, 0 + 1, by omega, rfl, rfl⟩; exact Weak.trans (weak_sl (sub_cons rfl (sub_cons rfl (sub_cons rfl (sub_cons rfl (sub_cons rfl (sub_cons rfl (sub_cons rfl (sub_nil))))))))) (weak_fin (h := 5) (t := 3) (a := 1) (nx' := 4) hS0 hG (by decide) (by decide) (by decide) (by decide) (by omega) rfl rfl))
 ·
  have hgek : ¬ k < cn + 1 := by simp only [decide_eq_false_iff_not] at hc0; omega
  obtain rfl : k = cn + 1 := by omega
  refine awp_exit ?_
  repeat refine thenA_exit ?_
  refine blockA_hit ?_
  refine awp_seq ?_
  refine r1 T0_ok hP hm hN ?_
  refine g1 ?_
  refine awp_seq ?_
  refine r1 T0_ok hP hm hN ?_
  refine g1 ?_
  refine awp_seq ?_
  refine awp_seq ?_
  refine r1 T0_ok hP hm hN ?_
  iterate 2 refine g1 ?_
  refine awp_block ?_
  refine awp_loop (fun K st => ∃ (k t : Nat) (ou : List Int), k ≤ cn ∧ t ≤ (htsI a b bs).length ∧ ou.length + k ≤ cn ∧ ou ++ (trI (WB a b bs) (htsI a b bs).length k t).map (fun j => (alI a b bs).getD j 0) = bestL a b bs cn ∧ K = k ∧ st = ⟨[(16, .val (.int .i64 (k : Nat))), (15, .val (.int .i64 (t : Nat))), (14, .own 4), (10, .own 3), (8, .own 1), (9, .val (.int .i64 ((htsI a b bs).length + 1 : Nat))), (1, .sl 8 (bks bs)), (2, .val (.int .i64 (cn : Nat)))], [(4, ⟨2, 1, false, i64s (ou)⟩), (3, ⟨31, 1, false, tabD (gI (rowF (WB a b bs) (htsI a b bs).length) (cn + 1)) (cn + 1)⟩), (1, ⟨2, 1, false, i64s ((alI a b bs))⟩)], 5⟩) cn ⟨_, (Weak.trans (weak_deep 3 false rfl (fun _ _ => gI_hf _ _ _)) (Weak.trans (weak_nil 14 2 1 rfl) (weak_sl (sub_cons rfl (sub_cons rfl (sub_cons rfl (sub_cons rfl (sub_cons rfl (sub_cons rfl (sub_cons rfl (sub_cons rfl (sub_nil)))))))))))), cn, 0, [], by omega, by omega, by simp, by rw [List.nil_append]; rfl, rfl, rfl⟩ ?_
  rintro K st ⟨k, t, ou, hk, ht, hou, htr, hKk, rfl⟩
  refine awp_seq ?_
  refine awp_seq ?_
  refine r1 T0_ok hP hm hN ?_
  iterate 2 refine g1 ?_
  refine awp_cond rfl (fun hc4 => ?_) (fun hc4 => ?_)
  ·
   obtain ⟨kp, rfl⟩ : ∃ kp, k = kp + 1 := ⟨k - 1, by simp at hc4; omega⟩
   refine awp_skip ?_
   refine awp_seq ?_
   refine awp_block ?_
   refine awp_seq ?_
   refine r1 T0_ok hP hm hN ?_
   iterate 3 refine g1 ?_
   refine awp_block ?_
   refine awp_loop (fun K st => ∃ s : Nat, t + 1 + s ≤ ((htsI a b bs).length + 1) ∧ (∀ q, t + 1 ≤ q → q < t + 1 + s → cI (WB a b bs) (htsI a b bs).length kp t q = false) ∧ K = (htsI a b bs).length - t - s ∧ st = ⟨[(17, .val (.int .i64 (t + 1 + s : Nat))), (16, .val (.int .i64 (kp + 1 : Nat))), (15, .val (.int .i64 (t : Nat))), (14, .own 4), (10, .own 3), (8, .own 1), (9, .val (.int .i64 ((htsI a b bs).length + 1 : Nat))), (1, .sl 8 (bks bs)), (2, .val (.int .i64 (cn : Nat)))], [(4, ⟨2, 1, false, i64s (ou)⟩), (3, ⟨31, 1, false, tabD (gI (rowF (WB a b bs) (htsI a b bs).length) (cn + 1)) (cn + 1)⟩), (1, ⟨2, 1, false, i64s ((alI a b bs))⟩)], 5⟩) ((htsI a b bs).length - t) ⟨_, weak_sl (sub_cons rfl (sub_cons rfl (sub_cons rfl (sub_cons rfl (sub_cons rfl (sub_cons rfl (sub_cons rfl (sub_cons rfl (sub_cons rfl (sub_nil)))))))))), 0, by omega, fun q h1 h2 => by omega, by omega, rfl⟩ ?_
   rintro K st ⟨s, hs1, hall, hKs, rfl⟩
   refine awp_seq ?_
   refine awp_seq ?_
   refine r1 T0_ok hP hm hN ?_
   iterate 3 refine g1 ?_
   refine awp_cond rfl (fun hc5 => ?_) (fun hc5 => ?_)
   ·
    have hltj : t + 1 + s < ((htsI a b bs).length + 1) := by simp only [decide_eq_true_eq] at hc5; omega
    have hTc := gI_old (rowF (WB a b bs) (htsI a b bs).length) (show cn + 1 ≤ cn + 1 by omega) (show kp + 1 < cn + 1 by omega)
    have hTo := gI_old (rowF (WB a b bs) (htsI a b bs).length) (show cn + 1 ≤ cn + 1 by omega) (show kp < cn + 1 by omega)
    have hWb : 0 ≤ wOn bs ((alI a b bs).getD t 0) ((alI a b bs).getD (t + 1 + s) 0) bs.length ∧ wOn bs ((alI a b bs).getD t 0) ((alI a b bs).getD (t + 1 + s) 0) bs.length ≤ 6000000 := wF_b ho hl hal t (t + 1 + s)
    have hFb : 0 ≤ FI (WB a b bs) (htsI a b bs).length kp (t + 1 + s) ∧ FI (WB a b bs) (htsI a b bs).length kp (t + 1 + s) ≤ 1099511627776 := FI_b hW0 kp (t + 1 + s)
    have hai := al_b hal t
    have haj := al_b hal (t + 1 + s)
    have hgi := i64s_get (alI a b bs) t (by simp only [List.length_cons]; omega)
    have hgj := i64s_get (alI a b bs) (t + 1 + s) (by simp only [List.length_cons]; omega)
    refine awp_skip ?_
    refine awp_seq ?_
    refine awp_block ?_
    refine awp_seq ?_
    refine awp_draw T0_ok hP hm hN Pr_mix [0, 1, 2, 3, 4, 5, 6, 7, 8, 9, 10, 11] [9] _ rfl (by rfl) ?_
    iterate 3 refine d1 T0_ok ?_
    refine d1 T0_ok ?_ (hpre := by exact ⟨rfl, by omega, by (try simp only [tabD_len, tabI_len, List.length_map, List.length_cons, List.length_set, List.length_replicate]); omega⟩)
    refine d1 T0_ok ?_ (hs := by first | rfl | exact astep_load_p (by rfl) (by rfl) (by rfl) (by exact hgi) (by rfl))
    iterate 2 refine d1 T0_ok ?_
    refine d1 T0_ok ?_ (hpre := by exact ⟨rfl, by omega, by (try simp only [tabD_len, tabI_len, List.length_map, List.length_cons, List.length_set, List.length_replicate]); omega⟩)
    refine d1 T0_ok ?_ (hs := by first | rfl | exact astep_load_p (by rfl) (by rfl) (by rfl) (by exact hgj) (by rfl))
    refine dp1 ?_ (call1 ok_I_wasteOn (_, _, _) [] (hpre := by (try dsimp only); exact ⟨⟨hv, ho, hl⟩, haj⟩))
    iterate 2 refine d1 T0_ok ?_
    refine d1 T0_ok ?_ (hdn := by simp +decide (disch := omega) only [nrm, lk_nrm, dc_nrm, mk_nrm, mf_nrm, ti_nrm, ls_nrm, mp_nrm, nb_nrm, hset, pick_and, pick_or, ↓reduceIte, Nat.reduceAdd, wI64, wI32, wI16, wI8, wU8, List.length_map, Int.toNat_natCast, xn1, xn2, mask_nrm, castsub1]; rfl) (hsl := by simp +decide (disch := omega) only [nrm, lk_nrm, dc_nrm, mk_nrm, mf_nrm, ti_nrm, ls_nrm, mp_nrm, nb_nrm, hset, pick_and, pick_or, ↓reduceIte, Nat.reduceAdd, wI64, wI32, wI16, wI8, wU8, List.length_map, Int.toNat_natCast, xn1, xn2, mask_nrm, castsub1]; rfl)
    refine d1 T0_ok ?_ (hpre := by exact ⟨rfl, by omega, by (try simp only [tabD_len, tabI_len, List.length_map, List.length_cons, List.length_set, List.length_replicate]); omega⟩)
    refine d1 T0_ok ?_ (hs := by first | rfl | exact astep_load_p (by rfl) (by rfl) (by rfl) (by exact hTo) (by rfl))
    refine d1 T0_ok ?_
    refine d1 T0_ok ?_ (hpre := by exact ⟨rfl, by omega, by (try simp only [tabD_len, tabI_len, List.length_map, List.length_cons, List.length_set, List.length_replicate]); omega⟩)
    refine d1 T0_ok ?_ (hs := by first | rfl | exact astep_load_r (by rfl) (by rfl) (by exact tabI_get _ (by omega)) (by rfl))
    iterate 3 refine d1 T0_ok ?_
    refine d1 T0_ok ?_ (hpre := by exact ⟨rfl, by omega, by (try simp only [tabD_len, tabI_len, List.length_map, List.length_cons, List.length_set, List.length_replicate]); omega⟩)
    refine d1 T0_ok ?_ (hs := by first | rfl | exact astep_load_p (by rfl) (by rfl) (by rfl) (by exact hTc) (by rfl))
    refine d1 T0_ok ?_
    refine d1 T0_ok ?_ (hpre := by exact ⟨rfl, by omega, by (try simp only [tabD_len, tabI_len, List.length_map, List.length_cons, List.length_set, List.length_replicate]); omega⟩)
    refine d1 T0_ok ?_ (hs := by first | rfl | exact astep_load_r (by rfl) (by rfl) (by exact tabI_get _ (by omega)) (by rfl))
    refine d1 T0_ok ?_
    refine dreg_nil ?_
    refine awp_cond rfl (fun hc6 => ?_) (fun hc6 => ?_)
    ·
     have hyes : cI (WB a b bs) (htsI a b bs).length kp t (t + 1 + s) = true := hc6
     refine awp_seq ?_
     refine r1 T0_ok hP hm hN ?_
     iterate 3 refine g1 ?_
     refine g1 ?_ (hpre := by exact ⟨rfl, by omega, by (try simp only [tabD_len, tabI_len, List.length_map, List.length_cons, List.length_set, List.length_replicate]); omega⟩)
     refine g1 ?_ (hs := by first | rfl | exact astep_load_p (by rfl) (by rfl) (by rfl) (by exact hgj) (by rfl))
     refine g1 ?_
     refine ga1 ?_
     refine g1 ?_
     refine awp_seq ?_
     refine r1 T0_ok hP hm hN ?_
     iterate 2 refine g1 ?_
     refine awp_exit ?_
     repeat refine thenA_exit ?_
     refine blockA_miss (by decide) ?_
     repeat refine thenA_exit ?_
     refine blockA_hit ?_
     refine r1 T0_ok hP hm hN ?_
     refine g1 ?_
     refine g1 ?_ (hst := by simp +decide (disch := omega) only [nrm, lk_nrm, dc_nrm, mk_nrm, mf_nrm, ti_nrm, ls_nrm, mp_nrm, nb_nrm, hset, pick_and, pick_or, ↓reduceIte, Nat.reduceAdd, wI64, wI32, wI16, wI8, wU8, List.length_map, Int.toNat_natCast, xn1, xn2, castsub1]; rfl)
     refine g1 ?_
     first
       | (refine ⟨kp, _, by omega, ?_, kp, t, ou, by omega, ht, by omega, (by rw [← trI_miss ht (fun q h1 h2 => hall q h1 (by omega))]; exact htr), rfl, rfl⟩; exact weak_sl (sub_cons rfl (sub_cons rfl (sub_cons rfl (sub_cons rfl (sub_cons rfl (sub_cons rfl (sub_cons rfl (sub_cons rfl (sub_nil))))))))))
       | (refine ⟨kp, _, by omega, ?_, kp, t + 1 + s, ou ++ [(alI a b bs).getD (t + 1 + s) 0], by omega, by omega, by simp; omega, (by rw [trI_hit hall hyes (by omega) (by omega), List.map_cons] at htr; rw [List.append_assoc]; exact htr), rfl, rfl⟩; rw [i64s_app]; exact Weak.trans (weak_drop 5) (Weak.trans (weak_nx (nx' := 5) (by omega) (by rfl)) (weak_sl (sub_cons rfl (sub_cons rfl (sub_cons rfl (sub_cons rfl (sub_cons rfl (sub_cons rfl (sub_cons rfl (sub_cons rfl (sub_nil))))))))))))
    ·
     have hno : cI (WB a b bs) (htsI a b bs).length kp t (t + 1 + s) = false := hc6
     refine awp_skip ?_
     refine r1 T0_ok hP hm hN ?_
     iterate 3 refine g1 ?_
     exact ⟨(htsI a b bs).length - t - (s + 1), _, by omega, weak_sl (sub_cons rfl (sub_cons rfl (sub_cons rfl (sub_cons rfl (sub_cons rfl (sub_cons rfl (sub_cons rfl (sub_cons rfl (sub_cons rfl (sub_nil)))))))))), s + 1, by omega, (fun q h1 h2 => by
       by_cases e : q = t + 1 + s
       · subst e; exact hno
       · exact hall q h1 (by omega)), by omega, rfl⟩
   ·
    have hgej : ¬ t + 1 + s < ((htsI a b bs).length + 1) := by simp only [decide_eq_false_iff_not] at hc5; omega
    refine awp_exit ?_
    repeat refine thenA_exit ?_
    refine blockA_hit ?_
    refine r1 T0_ok hP hm hN ?_
    refine g1 ?_
    refine g1 ?_ (hst := by simp +decide (disch := omega) only [nrm, lk_nrm, dc_nrm, mk_nrm, mf_nrm, ti_nrm, ls_nrm, mp_nrm, nb_nrm, hset, pick_and, pick_or, ↓reduceIte, Nat.reduceAdd, wI64, wI32, wI16, wI8, wU8, List.length_map, Int.toNat_natCast, xn1, xn2, castsub1]; rfl)
    refine g1 ?_
    first
      | (refine ⟨kp, _, by omega, ?_, kp, t, ou, by omega, ht, by omega, (by rw [← trI_miss ht (fun q h1 h2 => hall q h1 (by omega))]; exact htr), rfl, rfl⟩; exact weak_sl (sub_cons rfl (sub_cons rfl (sub_cons rfl (sub_cons rfl (sub_cons rfl (sub_cons rfl (sub_cons rfl (sub_cons rfl (sub_nil))))))))))
      | (refine ⟨kp, _, by omega, ?_, kp, t + 1 + s, ou ++ [(alI a b bs).getD (t + 1 + s) 0], by omega, by omega, by simp; omega, (by rw [trI_hit hall hyes (by omega) (by omega), List.map_cons] at htr; rw [List.append_assoc]; exact htr), rfl, rfl⟩; rw [i64s_app]; exact Weak.trans (weak_drop 5) (Weak.trans (weak_nx (nx' := 5) (by omega) (by rfl)) (weak_sl (sub_cons rfl (sub_cons rfl (sub_cons rfl (sub_cons rfl (sub_cons rfl (sub_cons rfl (sub_cons rfl (sub_cons rfl (sub_nil))))))))))))
  ·
   obtain rfl : k = 0 := by simp at hc4; omega
   rw [trI, List.map_nil, List.append_nil] at htr
   subst htr
   refine awp_exit ?_
   repeat refine thenA_exit ?_
   refine blockA_hit ?_
   refine awp_seq ?_
   refine awp_draw T0_ok hP hm hN Pr_mix [0, 1, 2, 3, 4, 5, 6, 7, 8, 9, 10, 11] [] _ rfl (by rfl) ?_
   iterate 3 refine d1 T0_ok ?_
   refine d1 T0_ok ?_ (hpre := by exact ⟨rfl, by omega, by (try simp only [tabD_len, tabI_len, List.length_map, List.length_cons, List.length_set, List.length_replicate]); omega⟩)
   refine d1 T0_ok ?_ (hs := by first | rfl | exact astep_load_p (by rfl) (by rfl) (by rfl) (by exact (gI_old (rowF (WB a b bs) (htsI a b bs).length) (show cn + 1 ≤ cn + 1 by omega) (show cn < cn + 1 by omega))) (by rfl))
   refine d1 T0_ok ?_ (hpre := by exact ⟨rfl, by omega, by (try simp only [tabD_len, tabI_len, List.length_map, List.length_cons, List.length_set, List.length_replicate]); omega⟩)
   refine d1 T0_ok ?_ (hs := by first | rfl | exact astep_load_r (by rfl) (by rfl) (by exact tabI_get _ (by omega)) (by rfl))
   iterate 2 refine d1 T0_ok ?_
   refine dreg_nil ?_
   refine awp_ret ?_
   refine fin_mk [4] rfl rfl ?_ (objs_cons rfl rfl rfl rfl rfl (.inl rfl) objs_nil) (by decide)
   rfl
end Go.Proofs.YtheoapoddmmahaaGreat.Abs

