import Derived.Test.YthdgihkffcmkiaaW9
set_option linter.unusedVariables false
set_option linter.unusedSimpArgs false
namespace Go.Proofs.Ythdgihkffcmkiaa.Abs
open Go Go.RowKit
theorem ext_getD {xs ys : List Int} (hl : xs.length = ys.length) (h : ∀ j, j < xs.length → xs.getD j 0 = ys.getD j 0) : xs = ys := by
  apply List.ext_getElem hl
  intro i h1 h2
  have := h i h1
  simpa [List.getD, h1, h2] using this
structure OrdC (c : Int → Int → Int) : Prop where
  anti : ∀ x y, c y x = - c x y
  trans : ∀ x y z, c x y ≤ 0 → c y z ≤ 0 → c x z ≤ 0
def ltC (c : Int → Int → Int) (x y : Int) : Prop := c x y < 0 ∨ (c x y = 0 ∧ x < y)
section ord
variable {c : Int → Int → Int} (h : OrdC c)
include h
theorem ltC_asymm {x y : Int} (h1 : ltC c x y) (h2 : ltC c y x) : False := by
  have := h.anti x y
  unfold ltC at *
  omega
theorem ltC_irrefl {x : Int} (h1 : ltC c x x) : False := ltC_asymm h h1 h1
theorem lt_mono {x y z : Int} (h1 : c x y ≤ 0) (h2 : c y z < 0) : c x z < 0 := by
  have h3 := h.trans x y z h1 (by omega)
  rcases Int.lt_or_eq_of_le h3 with h4 | h4
  · exact h4
  · have a1 := h.anti x z
    have := h.trans z x y (by omega) h1
    have a2 := h.anti y z
    omega
theorem lt_mono' {x y z : Int} (h1 : c x y < 0) (h2 : c y z ≤ 0) : c x z < 0 := by
  have h3 := h.trans x y z (by omega) h2
  rcases Int.lt_or_eq_of_le h3 with h4 | h4
  · exact h4
  · have a1 := h.anti x z
    have := h.trans y z x h2 (by omega)
    have a2 := h.anti x y
    omega
theorem ltC_le {x y : Int} (h1 : ltC c x y) : c x y ≤ 0 := by have := h.anti x y; unfold ltC at h1; omega
theorem ltC_trans {x y z : Int} (h1 : ltC c x y) (h2 : ltC c y z) : ltC c x z := by
  rcases h1 with h1 | h1
  · exact .inl (lt_mono' h h1 (ltC_le h h2))
  · rcases h2 with h2 | h2
    · exact .inl (lt_mono h (by omega) h2)
    · have h3 := h.trans x y z (by omega) (by omega)
      have h4 := h.trans z y x (by have := h.anti y z; omega) (by have := h.anti x y; omega)
      have := h.anti x z
      exact .inr ⟨by omega, by omega⟩
theorem ltC_of_not {x y : Int} (h1 : ¬ c y x < 0) (h2 : x < y) : ltC c x y := by
  have := h.anti x y
  unfold ltC
  omega
end ord
def Sd (c : Int → Int → Int) (a b : Nat) (ys : List Int) : Prop := ∀ i j, a ≤ i → i < j → j < b → ltC c (ys.getD i 0) (ys.getD j 0)
structure SegP (a b : Nat) (xs ys : List Int) : Prop where
  perm : ys.Perm xs
  out : ∀ i, i < a ∨ b ≤ i → ys.getD i 0 = xs.getD i 0
theorem SegP.rfl' {a b : Nat} {xs : List Int} : SegP a b xs xs := ⟨.refl _, fun _ _ => rfl⟩
theorem SegP.trans {a b : Nat} {xs ys zs : List Int} (h1 : SegP a b xs ys) (h2 : SegP a b ys zs) : SegP a b xs zs := ⟨h2.perm.trans h1.perm, fun i hi => (h2.out i hi).trans (h1.out i hi)⟩
theorem SegP.wide {a b a' b' : Nat} {xs ys : List Int} (h : SegP a b xs ys) (h1 : a' ≤ a) (h2 : b ≤ b') : SegP a' b' xs ys := ⟨h.perm, fun i hi => h.out i (by omega)⟩
theorem SegP.len {a b : Nat} {xs ys : List Int} (h : SegP a b xs ys) : ys.length = xs.length := h.perm.length_eq
def seg (xs : List Int) (a b : Nat) : List Int := (xs.drop a).take (b - a)
theorem seg_len {xs : List Int} {a b : Nat} (h1 : a ≤ b) (h2 : b ≤ xs.length) : (seg xs a b).length = b - a := by simp [seg]; omega
theorem seg_get {xs : List Int} {a b j : Nat} (h : j < b - a) : (seg xs a b).getD j 0 = xs.getD (a + j) 0 := by
  simp [seg, List.getD, List.getElem?_take, List.getElem?_drop, h]
theorem split3 (xs : List Int) {a b : Nat} (h1 : a ≤ b) : xs = xs.take a ++ (seg xs a b ++ xs.drop b) := by
  have : seg xs a b ++ xs.drop b = xs.drop a := by
    have e : xs.drop b = (xs.drop a).drop (b - a) := by rw [List.drop_drop]; congr 1; omega
    rw [e, seg, List.take_append_drop]
  rw [this, List.take_append_drop]
theorem SegP.parts {a b : Nat} {xs ys : List Int} (h : SegP a b xs ys) (h1 : a ≤ b) (h2 : b ≤ xs.length) : ys.take a = xs.take a ∧ ys.drop b = xs.drop b ∧ (seg ys a b).Perm (seg xs a b) := by
  have hl := h.len
  have e1 : ys.take a = xs.take a := ext_getD (by simp [hl]) (fun j hj => by
    have hja : j < a := by simp at hj; omega
    have := h.out j (by omega)
    simpa [List.getD, List.getElem?_take, hja] using this)
  have e2 : ys.drop b = xs.drop b := ext_getD (by simp [hl]) (fun j hj => by
    have := h.out (b + j) (by omega)
    simpa [List.getD, List.getElem?_drop] using this)
  refine ⟨e1, e2, ?_⟩
  have hp := h.perm
  rw [split3 ys h1, split3 xs h1, e1, e2] at hp
  exact (List.perm_append_right_iff _).1 ((List.perm_append_left_iff _).1 hp)
theorem SegP.mem {a b : Nat} {xs ys : List Int} (h : SegP a b xs ys) (h1 : a ≤ b) (h2 : b ≤ xs.length) {p : Nat} (hp1 : a ≤ p) (hp2 : p < b) : ∃ q, a ≤ q ∧ q < b ∧ ys.getD p 0 = xs.getD q 0 := by
  obtain ⟨_, _, hp⟩ := h.parts h1 h2
  have hlen := seg_len (xs := ys) h1 (by rw [h.len]; exact h2)
  have hlx := seg_len h1 h2
  have hm : (seg ys a b).getD (p - a) 0 ∈ seg ys a b := by
    rw [List.getD, List.getElem?_eq_getElem (by omega)]; exact List.getElem_mem _
  rw [seg_get (by omega), show a + (p - a) = p by omega] at hm
  obtain ⟨q, hq, he⟩ := List.getElem_of_mem (hp.mem_iff.1 hm)
  refine ⟨a + q, by omega, by omega, ?_⟩
  rw [← seg_get (b := b) (by omega), ← he, List.getD, List.getElem?_eq_getElem hq]
  rfl
theorem perm_sorted_eq {c : Int → Int → Int} (h : OrdC c) : ∀ {l1 l2 : List Int}, l1.Perm l2 → l1.Pairwise (ltC c) → l2.Pairwise (ltC c) → l1 = l2
  | [], l2, hp, _, _ => (List.Perm.nil_eq hp)
  | x :: l1, [], hp, _, _ => by have := hp.length_eq; simp at this
  | x :: l1, y :: l2, hp, s1, s2 => by
    rw [List.pairwise_cons] at s1 s2
    have hxy : x = y := by
      have hx : x ∈ y :: l2 := hp.mem_iff.1 (by simp)
      have hy : y ∈ x :: l1 := hp.mem_iff.2 (by simp)
      rcases List.mem_cons.1 hx with hx | hx
      · exact hx
      · rcases List.mem_cons.1 hy with hy | hy
        · exact hy.symm
        · exact (ltC_asymm h (s2.1 x hx) (s1.1 y hy)).elim
    subst hxy
    rw [perm_sorted_eq h (List.Perm.cons_inv hp) s1.2 s2.2]
theorem sd_pair {c : Int → Int → Int} {a b : Nat} {ys : List Int} (h1 : a ≤ b) (h2 : b ≤ ys.length) : Sd c a b ys ↔ (seg ys a b).Pairwise (ltC c) := by
  rw [List.pairwise_iff_getElem]
  have hl := seg_len h1 h2
  have hg : ∀ j (hj : j < (seg ys a b).length), (seg ys a b)[j] = ys.getD (a + j) 0 := fun j hj => by
    rw [← seg_get (b := b) (by omega), List.getD, List.getElem?_eq_getElem hj]; rfl
  constructor
  · intro hs i j hi hj hij
    rw [hg, hg]
    exact hs _ _ (by omega) (by omega) (by omega)
  · intro hs i j hi hij hj
    have := hs (i - a) (j - a) (by omega) (by omega) (by omega)
    rw [hg, hg, show a + (i - a) = i by omega, show a + (j - a) = j by omega] at this
    exact this
theorem seg_unique {c : Int → Int → Int} (h : OrdC c) {a b : Nat} {xs ys zs : List Int} (hab : a ≤ b) (hbl : b ≤ xs.length) (h1 : SegP a b xs ys) (s1 : Sd c a b ys) (h2 : SegP a b xs zs) (s2 : Sd c a b zs) : ys = zs := by
  obtain ⟨a1, a2, a3⟩ := h1.parts hab hbl
  obtain ⟨b1, b2, b3⟩ := h2.parts hab hbl
  have e := perm_sorted_eq h (a3.trans b3.symm) ((sd_pair hab (by rw [h1.len]; exact hbl)).1 s1) ((sd_pair hab (by rw [h2.len]; exact hbl)).1 s2)
  rw [split3 ys hab, split3 zs hab, a1, a2, b1, b2, e]
def leB (c : Int → Int → Int) (x y : Int) : Bool := decide (c x y < 0) || (decide (c x y = 0) && decide (x ≤ y))
theorem seg_exists {c : Int → Int → Int} (h : OrdC c) {a b : Nat} {xs : List Int} (hab : a ≤ b) (hbl : b ≤ xs.length) (hd : ∀ i j, a ≤ i → i < j → j < b → xs.getD i 0 ≠ xs.getD j 0) : ∃ ys, SegP a b xs ys ∧ Sd c a b ys := by
  have hle : ∀ x y, leB c x y = true ↔ (c x y < 0 ∨ (c x y = 0 ∧ x ≤ y)) := fun x y => by simp [leB]
  have hlt : ∀ x y, leB c x y = true → x ≠ y → ltC c x y := fun x y h1 hne => by
    rw [hle] at h1; unfold ltC; omega
  have htr : ∀ x y z, leB c x y = true → leB c y z = true → leB c x z = true := fun x y z h1 h2 => by
    by_cases e : x = y
    · subst e; exact h2
    · by_cases e2 : y = z
      · subst e2; exact h1
      · have := ltC_trans h (hlt x y h1 e) (hlt y z h2 e2)
        rw [hle]; unfold ltC at this; omega
  have hto : ∀ x y, (leB c x y || leB c y x) = true := fun x y => by
    by_cases e : x = y
    · subst e
      have h0 := h.anti x x
      have : leB c x x = true := by rw [hle]; omega
      simp [this]
    · rw [Bool.or_eq_true, hle, hle]
      have := h.anti x y
      omega
  have hs := List.pairwise_mergeSort htr hto (seg xs a b)
  have hp := List.mergeSort_perm (seg xs a b) (leB c)
  have hln := seg_len hab hbl
  have hl : ((seg xs a b).mergeSort (leB c)).length = b - a := by rw [hp.length_eq, hln]
  have hnd : (seg xs a b).Nodup := by
    rw [List.Nodup, List.pairwise_iff_getElem]
    intro i j hi hj hij
    have := hd (a + i) (a + j) (by omega) (by omega) (by omega)
    rw [← seg_get (b := b) (by omega), ← seg_get (b := b) (by omega)] at this
    simpa [List.getD, hi, hj] using this
  have hnd2 : ((seg xs a b).mergeSort (leB c)).Nodup := hp.nodup_iff.2 hnd
  have htake : (xs.take a).length = a := by simp; omega
  have hout : ∀ i, i < a ∨ b ≤ i → (xs.take a ++ ((seg xs a b).mergeSort (leB c) ++ xs.drop b)).getD i 0 = xs.getD i 0 := fun i hi => by
    rcases hi with hi | hi
    · rw [List.getD, List.getElem?_append_left (by omega), List.getElem?_take, if_pos hi]; rfl
    · rw [List.getD, List.getElem?_append_right (by omega), List.getElem?_append_right (by omega), htake, hl, List.getElem?_drop, List.getD]
      congr 2; omega
  refine ⟨xs.take a ++ ((seg xs a b).mergeSort (leB c) ++ xs.drop b), ⟨?_, hout⟩, ?_⟩
  · have := (List.perm_append_left_iff (xs.take a)).2 ((List.perm_append_right_iff (xs.drop b)).2 hp)
    rwa [← split3 xs hab] at this
  · rw [sd_pair hab (by simp [hl]; omega)]
    have hse : seg (xs.take a ++ ((seg xs a b).mergeSort (leB c) ++ xs.drop b)) a b = (seg xs a b).mergeSort (leB c) := by
      unfold seg at *
      rw [List.drop_append_of_le_length (by omega), List.drop_of_length_le (by omega), List.nil_append, List.take_append_of_le_length (by omega), List.take_of_length_le (by omega)]
    rw [hse, List.pairwise_iff_getElem]
    intro i j hi hj hij
    have h1 := List.pairwise_iff_getElem.1 hs i j hi hj hij
    have h2 := List.pairwise_iff_getElem.1 hnd2 i j hi hj hij
    exact hlt _ _ h1 h2
open Classical in
noncomputable def srt (c : Int → Int → Int) (a b : Nat) (xs : List Int) : List Int := if h : ∃ ys, SegP a b xs ys ∧ Sd c a b ys then Classical.choose h else xs
theorem srt_eq {c : Int → Int → Int} (h : OrdC c) {a b : Nat} {xs ys : List Int} (hab : a ≤ b) (hbl : b ≤ xs.length) (h1 : SegP a b xs ys) (s1 : Sd c a b ys) : srt c a b xs = ys := by
  have hex : ∃ ys, SegP a b xs ys ∧ Sd c a b ys := ⟨ys, h1, s1⟩
  rw [srt, dif_pos hex]
  obtain ⟨h2, s2⟩ := Classical.choose_spec hex
  exact seg_unique h hab hbl h2 s2 h1 s1
theorem srt_ok {c : Int → Int → Int} (h : OrdC c) {a b : Nat} {xs : List Int} (hab : a ≤ b) (hbl : b ≤ xs.length) (hd : ∀ i j, a ≤ i → i < j → j < b → xs.getD i 0 ≠ xs.getD j 0) : SegP a b xs (srt c a b xs) ∧ Sd c a b (srt c a b xs) := by
  have hex := seg_exists h hab hbl hd
  rw [srt, dif_pos hex]
  exact Classical.choose_spec hex

/-! ### Exchanges -/
def swp (xs : List Int) (i j : Nat) : List Int := (xs.set i (xs.getD j 0)).set j (xs.getD i 0)
theorem swp_len (xs : List Int) (i j : Nat) : (swp xs i j).length = xs.length := by simp [swp]
theorem set_getD {f : List Int} {i j : Nat} {v : Int} (h : i < f.length) : (f.set i v).getD j 0 = if j = i then v else f.getD j 0 := by
  by_cases e : j = i
  · subst e; simp [List.getD, h]
  · simp [List.getD, List.getElem?_set, e, Ne.symm e]
theorem swp_get {xs : List Int} {i j : Nat} (hi : i < xs.length) (hj : j < xs.length) (p : Nat) : (swp xs i j).getD p 0 = if p = j then xs.getD i 0 else if p = i then xs.getD j 0 else xs.getD p 0 := by
  rw [swp, set_getD (by simpa using hj), set_getD hi]
theorem swp_perm {xs : List Int} {i j : Nat} (hi : i < xs.length) (hj : j < xs.length) : (swp xs i j).Perm xs := by
  have := List.set_set_perm hi hj
  simpa [swp, List.getD, hi, hj] using this
def BubL (xs zs : List Int) (i j : Nat) : Prop := ∀ p, zs.getD p 0 = if p = j then xs.getD i 0 else if j < p ∧ p ≤ i then xs.getD (p - 1) 0 else xs.getD p 0
theorem bubL_0 (xs : List Int) (i : Nat) : BubL xs xs i i := fun p => by
  split
  · rename_i h; rw [h]
  · rw [if_neg (by omega)]
theorem bubL_step {xs zs : List Int} {i j : Nat} (h : BubL xs zs i (j + 1)) (hji : j + 1 ≤ i) (hl : i < zs.length) : BubL xs (swp zs (j + 1) j) i j := fun p => by
  rw [swp_get (by omega) (by omega)]
  have e1 := h (j + 1)
  have e2 := h j
  have e3 := h p
  rw [if_pos rfl] at e1
  rw [if_neg (by omega), if_neg (by omega)] at e2
  by_cases a1 : p = j
  · rw [if_pos a1, if_pos a1, e1]
  · rw [if_neg a1, if_neg a1]
    by_cases a2 : p = j + 1
    · rw [if_pos a2, if_pos (by omega), e2, a2]; rfl
    · rw [if_neg a2, e3, if_neg a2]
      by_cases a3 : j < p ∧ p ≤ i
      · rw [if_pos (by omega), if_pos a3]
      · rw [if_neg (by omega), if_neg a3]
def BubR (xs zs : List Int) (a k : Nat) : Prop := ∀ p, zs.getD p 0 = if p = k then xs.getD a 0 else if a ≤ p ∧ p < k then xs.getD (p + 1) 0 else xs.getD p 0
theorem bubR_0 (xs : List Int) (a : Nat) : BubR xs xs a a := fun p => by
  split
  · rename_i h; rw [h]
  · rw [if_neg (by omega)]
theorem bubR_step {xs zs : List Int} {a k : Nat} (h : BubR xs zs a k) (hak : a ≤ k) (hl : k + 1 < zs.length) : BubR xs (swp zs k (k + 1)) a (k + 1) := fun p => by
  rw [swp_get (by omega) (by omega)]
  have e1 := h k
  have e2 := h (k + 1)
  have e3 := h p
  rw [if_pos rfl] at e1
  rw [if_neg (by omega), if_neg (by omega)] at e2
  by_cases a1 : p = k + 1
  · rw [if_pos a1, if_pos a1, e1]
  · rw [if_neg a1, if_neg a1]
    by_cases a2 : p = k
    · rw [if_pos a2, if_pos (by omega), e2, a2]
    · rw [if_neg a2, e3, if_neg a2]
      by_cases a3 : a ≤ p ∧ p < k
      · rw [if_pos a3, if_pos (by omega)]
      · rw [if_neg a3, if_neg (by omega)]
theorem ins_done {c : Int → Int → Int} (h : OrdC c) {a i j : Nat} {ys zs : List Int} (hS : Sd c a i ys) (hz : BubL ys zs i j) (haj : a ≤ j) (hji : j ≤ i) (hasc : ∀ p, a ≤ p → p < i → ys.getD p 0 < ys.getD i 0) (hgt : ∀ p, j ≤ p → p < i → ltC c (ys.getD i 0) (ys.getD p 0)) (hle : j = a ∨ ¬ c (ys.getD i 0) (ys.getD (j - 1) 0) < 0) : Sd c a (i + 1) zs := fun p q hp hpq hq => by
  have hlow : ∀ p, a ≤ p → p < j → ltC c (ys.getD p 0) (ys.getD i 0) := fun p h1 h2 => by
    rcases hle with h3 | h3
    · omega
    · have h4 := ltC_of_not h h3 (hasc (j - 1) (by omega) (by omega))
      by_cases e : p = j - 1
      · rw [e]; exact h4
      · exact ltC_trans h (hS p (j - 1) h1 (by omega) (by omega)) h4
  rw [hz p, hz q]
  by_cases a1 : p = j
  · rw [if_pos a1, if_neg (by omega), if_pos (by omega)]
    exact hgt _ (by omega) (by omega)
  · rw [if_neg a1]
    by_cases a2 : q = j
    · rw [if_pos a2, if_neg (by omega)]
      exact hlow p hp (by omega)
    · rw [if_neg a2]
      by_cases a3 : j < p ∧ p ≤ i
      · rw [if_pos a3, if_pos (by omega)]
        exact hS _ _ (by omega) (by omega) (by omega)
      · rw [if_neg a3]
        by_cases a4 : j < q ∧ q ≤ i
        · rw [if_pos a4]
          exact hS _ _ (by omega) (by omega) (by omega)
        · rw [if_neg a4]
          exact hS _ _ (by omega) (by omega) (by omega)
theorem bubL_seg {xs zs : List Int} {a b i j : Nat} (hz : BubL xs zs i j) (hp : zs.Perm xs) (haj : a ≤ j) (hji : j ≤ i) (hib : i < b) : SegP a b xs zs := ⟨hp, fun p hp => by
  rw [hz p, if_neg (by omega), if_neg (by omega)]⟩
theorem bubR_seg {xs zs : List Int} {a b k : Nat} (hz : BubR xs zs a k) (hp : zs.Perm xs) (hak : a ≤ k) (hkb : k < b) : SegP a b xs zs := ⟨hp, fun p hp => by
  rw [hz p, if_neg (by omega), if_neg (by omega)]⟩

/-! ### Rotations -/
def swR (xs : List Int) (a b : Nat) : Nat → List Int
  | 0 => xs
  | i + 1 => swp (swR xs a b i) (a + i) (b + i)
theorem swR_len (xs : List Int) (a b : Nat) : ∀ n, (swR xs a b n).length = xs.length
  | 0 => rfl
  | n + 1 => by rw [swR, swp_len, swR_len xs a b n]
theorem swR_get {xs : List Int} {a b : Nat} : ∀ n, a + n ≤ b → b + n ≤ xs.length → ∀ p, (swR xs a b n).getD p 0 = if a ≤ p ∧ p < a + n then xs.getD (p - a + b) 0 else if b ≤ p ∧ p < b + n then xs.getD (p - b + a) 0 else xs.getD p 0
  | 0, _, _, p => by rw [if_neg (by omega), if_neg (by omega)]; rfl
  | n + 1, h1, h2, p => by
    rw [swR, swp_get (by rw [swR_len]; omega) (by rw [swR_len]; omega), swR_get n (by omega) (by omega) (a + n), swR_get n (by omega) (by omega) (b + n), swR_get n (by omega) (by omega) p]
    rw [if_neg (show ¬ (a ≤ a + n ∧ a + n < a + n) by omega), if_neg (show ¬ (b ≤ a + n ∧ a + n < b + n) by omega), if_neg (show ¬ (a ≤ b + n ∧ b + n < a + n) by omega), if_neg (show ¬ (b ≤ b + n ∧ b + n < b + n) by omega)]
    by_cases e1 : p = b + n
    · rw [if_pos e1, if_neg (by omega), if_pos (by omega)]; congr 1; omega
    · rw [if_neg e1]
      by_cases e2 : p = a + n
      · rw [if_pos e2, if_pos (by omega)]; congr 1; omega
      · rw [if_neg e2]
        by_cases e3 : a ≤ p ∧ p < a + n
        · rw [if_pos e3, if_pos (by omega)]
        · rw [if_neg e3, if_neg (show ¬ (a ≤ p ∧ p < a + (n + 1)) by omega)]
          by_cases e4 : b ≤ p ∧ p < b + n
          · rw [if_pos e4, if_pos (by omega)]
          · rw [if_neg e4, if_neg (by omega)]
def rotL (xs : List Int) (a m b : Nat) : List Int := xs.take a ++ (seg xs m b ++ (seg xs a m ++ xs.drop b))
theorem rotL_len {xs : List Int} {a m b : Nat} (h1 : a ≤ m) (h2 : m ≤ b) (h3 : b ≤ xs.length) : (rotL xs a m b).length = xs.length := by
  simp [rotL, seg_len h1 (show m ≤ xs.length by omega), seg_len h2 h3]; omega
theorem rotL_get {xs : List Int} {a m b : Nat} (h1 : a ≤ m) (h2 : m ≤ b) (h3 : b ≤ xs.length) (p : Nat) : (rotL xs a m b).getD p 0 = if p < a then xs.getD p 0 else if p < a + (b - m) then xs.getD (p + (m - a)) 0 else if p < b then xs.getD (p - (b - m)) 0 else xs.getD p 0 := by
  have l1 : (xs.take a).length = a := by simp; omega
  have l2 := seg_len h2 h3
  have l3 := seg_len (xs := xs) h1 (by omega)
  have app : ∀ (l r : List Int) (q : Nat), (l ++ r).getD q 0 = if q < l.length then l.getD q 0 else r.getD (q - l.length) 0 := fun l r q => by
    by_cases e : q < l.length
    · rw [if_pos e, List.getD, List.getElem?_append_left e]; rfl
    · rw [if_neg e, List.getD, List.getElem?_append_right (by omega)]; rfl
  rw [rotL, app, l1]
  by_cases e1 : p < a
  · rw [if_pos e1, if_pos e1]; simp [List.getD, List.getElem?_take, e1]
  · rw [if_neg e1, if_neg e1, app, l2]
    by_cases e2 : p < a + (b - m)
    · rw [if_pos (by omega), if_pos e2, seg_get (by omega)]; congr 1; omega
    · rw [if_neg (by omega), if_neg e2, app, l3]
      by_cases e3 : p < b
      · rw [if_pos (by omega), if_pos e3, seg_get (by omega)]; congr 1; omega
      · rw [if_neg (by omega), if_neg e3]
        simp only [List.getD, List.getElem?_drop]; congr 2; omega
theorem rotL_perm {xs : List Int} {a m b : Nat} (h1 : a ≤ m) (h2 : m ≤ b) : (rotL xs a m b).Perm xs := by
  have e : xs = xs.take a ++ (seg xs a m ++ (seg xs m b ++ xs.drop b)) := by
    have e1 := split3 xs h1
    have e2 := split3 xs h2
    have : xs.drop m = seg xs m b ++ xs.drop b := by
      have e3 : xs.drop b = (xs.drop m).drop (b - m) := by rw [List.drop_drop]; congr 1; omega
      rw [e3, seg, List.take_append_drop]
    rw [← this]; exact e1
  refine .trans ?_ (.of_eq e.symm)
  rw [rotL]
  refine (List.perm_append_left_iff _).2 ?_
  rw [← List.append_assoc, ← List.append_assoc]
  exact (List.perm_append_right_iff _).2 List.perm_append_comm
theorem rotL_triv {xs : List Int} {a m b : Nat} (h1 : a ≤ m) (h2 : m ≤ b) (h3 : b ≤ xs.length) (h : a = m ∨ m = b) : rotL xs a m b = xs :=
  ext_getD (rotL_len h1 h2 h3) (fun p _ => by
    rw [rotL_get h1 h2 h3]
    by_cases e1 : p < a
    · rw [if_pos e1]
    · rw [if_neg e1]
      by_cases e2 : p < a + (b - m)
      · rw [if_pos e2]; congr 1; omega
      · rw [if_neg e2]
        by_cases e3 : p < b
        · rw [if_pos e3]; congr 1; omega
        · rw [if_neg e3])
theorem rot_left {xs : List Int} {m i j : Nat} (hij : j < i) (him : i ≤ m) (hl : m + j ≤ xs.length) : rotL (swR xs (m - i) m j) (m - (i - j)) m (m + j) = rotL xs (m - i) m (m + j) :=
  ext_getD (by rw [rotL_len (by omega) (by omega) (by rw [swR_len]; exact hl), rotL_len (by omega) (by omega) hl, swR_len]) (fun p _ => by
    rw [rotL_get (by omega) (by omega) (by rw [swR_len]; exact hl), rotL_get (by omega) (by omega) hl]
    rw [swR_get j (by omega) (by omega), swR_get j (by omega) (by omega), swR_get j (by omega) (by omega)]
    (repeat' split) <;> first | rfl | (congr 1; omega) | (exfalso; omega))
theorem rot_right {xs : List Int} {m i j : Nat} (hij : i < j) (him : i ≤ m) (hl : m + j ≤ xs.length) : rotL (swR xs (m - i) (m + j - i) i) (m - i) m (m + (j - i)) = rotL xs (m - i) m (m + j) :=
  ext_getD (by rw [rotL_len (by omega) (by omega) (by rw [swR_len]; omega), rotL_len (by omega) (by omega) hl, swR_len]) (fun p _ => by
    rw [rotL_get (by omega) (by omega) (by rw [swR_len]; omega), rotL_get (by omega) (by omega) hl]
    rw [swR_get i (by omega) (by omega), swR_get i (by omega) (by omega), swR_get i (by omega) (by omega)]
    (repeat' split) <;> first | rfl | (congr 1; omega) | (exfalso; omega))
theorem rot_same {xs : List Int} {m i : Nat} (him : i ≤ m) (hl : m + i ≤ xs.length) : swR xs (m - i) m i = rotL xs (m - i) m (m + i) :=
  ext_getD (by rw [rotL_len (by omega) (by omega) hl, swR_len]) (fun p _ => by
    rw [rotL_get (by omega) (by omega) hl, swR_get i (by omega) (by omega)]
    (repeat' split) <;> first | rfl | (congr 1; omega) | (exfalso; omega))
/-! ### The merge -/
structure MergeP (c : Int → Int → Int) (a m b : Nat) (xs : List Int) : Prop where
  am : a < m
  mb : m < b
  bl : b ≤ xs.length
  s1 : Sd c a m xs
  s2 : Sd c m b xs
  cross : ∀ p q, a ≤ p → p < m → m ≤ q → q < b → xs.getD p 0 < xs.getD q 0
theorem merge_one {c : Int → Int → Int} (h : OrdC c) {a m b i : Nat} {xs zs : List Int} (hM : MergeP c a m b xs) (ham : m = a + 1) (hi1 : m ≤ i) (hi2 : i ≤ b) (hlo : ∀ q, m ≤ q → q < i → c (xs.getD q 0) (xs.getD a 0) < 0) (hhi : ∀ q, i ≤ q → q < b → ¬ c (xs.getD q 0) (xs.getD a 0) < 0) (hz : BubR xs zs a (i - 1)) (hp : zs.Perm xs) : srt c a b xs = zs := by
  refine srt_eq h (by have := hM.am; have := hM.mb; omega) hM.bl (bubR_seg hz hp (by omega) (by omega)) (fun p q hpa hpq hqb => ?_)
  rw [hz p, hz q]
  by_cases e1 : p = i - 1
  · rw [if_pos e1, if_neg (by omega), if_neg (by omega)]
    exact ltC_of_not h (hhi q (by omega) hqb) (hM.cross a q (Nat.le_refl _) hM.am (by omega) hqb)
  · rw [if_neg e1]
    by_cases e2 : q = i - 1
    · rw [if_pos e2, if_pos (by omega)]
      exact .inl (hlo _ (by omega) (by omega))
    · rw [if_neg e2]
      by_cases e3 : a ≤ p ∧ p < i - 1
      · rw [if_pos e3]
        by_cases e4 : a ≤ q ∧ q < i - 1
        · rw [if_pos e4]; exact hM.s2 _ _ (by omega) (by omega) (by omega)
        · rw [if_neg e4]; exact hM.s2 _ _ (by omega) (by omega) (by omega)
      · rw [if_neg e3, if_neg (by omega)]; exact hM.s2 _ _ (by omega) (by omega) (by omega)
theorem one_lo {c : Int → Int → Int} (h : OrdC c) {a m b t : Nat} {xs : List Int} (hM : MergeP c a m b xs) (h1 : m ≤ t) (h2 : t < b) (hc : c (xs.getD t 0) (xs.getD a 0) < 0) {q : Nat} (hq1 : m ≤ q) (hq2 : q ≤ t) : c (xs.getD q 0) (xs.getD a 0) < 0 := by
  by_cases e : q = t
  · rw [e]; exact hc
  · exact lt_mono h (ltC_le h (hM.s2 q t hq1 (by omega) h2)) hc
theorem one_hi {c : Int → Int → Int} (h : OrdC c) {a m b t : Nat} {xs : List Int} (hM : MergeP c a m b xs) (h1 : m ≤ t) (hc : ¬ c (xs.getD t 0) (xs.getD a 0) < 0) {q : Nat} (hq1 : t ≤ q) (hq2 : q < b) : ¬ c (xs.getD q 0) (xs.getD a 0) < 0 := fun h3 => by
  by_cases e : q = t
  · rw [e] at h3; exact hc h3
  · exact hc (lt_mono h (ltC_le h (hM.s2 t q h1 (by omega) hq2)) h3)
theorem merge_last {c : Int → Int → Int} (h : OrdC c) {a m b i : Nat} {xs zs : List Int} (hM : MergeP c a m b xs) (hmb : b = m + 1) (hi1 : a ≤ i) (hi2 : i ≤ m) (hlo : ∀ q, a ≤ q → q < i → ¬ c (xs.getD m 0) (xs.getD q 0) < 0) (hhi : ∀ q, i ≤ q → q < m → c (xs.getD m 0) (xs.getD q 0) < 0) (hz : BubL xs zs m i) (hp : zs.Perm xs) : srt c a b xs = zs := by
  refine srt_eq h (by have := hM.am; have := hM.mb; omega) hM.bl (bubL_seg hz hp (by omega) (by omega) hM.mb) ?_
  rw [hmb]
  intro p q hpa hpq hqb
  rw [hz p, hz q]
  by_cases e1 : p = i
  · rw [if_pos e1, if_neg (by omega), if_pos (by omega)]
    exact .inl (hhi _ (by omega) (by omega))
  · rw [if_neg e1]
    by_cases e2 : q = i
    · rw [if_pos e2, if_neg (by omega)]
      exact ltC_of_not h (hlo p hpa (by omega)) (hM.cross p m hpa (by omega) (Nat.le_refl _) hM.mb)
    · rw [if_neg e2]
      by_cases e3 : i < p ∧ p ≤ m
      · rw [if_pos e3, if_pos (by omega)]; exact hM.s1 _ _ (by omega) (by omega) (by omega)
      · rw [if_neg e3]
        by_cases e4 : i < q ∧ q ≤ m
        · rw [if_pos e4]; exact hM.s1 _ _ (by omega) (by omega) (by omega)
        · rw [if_neg e4]; exact hM.s1 _ _ (by omega) (by omega) (by omega)
theorem last_lo {c : Int → Int → Int} (h : OrdC c) {a m b t : Nat} {xs : List Int} (hM : MergeP c a m b xs) (h2 : t < m) (hc : ¬ c (xs.getD m 0) (xs.getD t 0) < 0) {q : Nat} (hq1 : a ≤ q) (hq2 : q ≤ t) : ¬ c (xs.getD m 0) (xs.getD q 0) < 0 := fun h3 => by
  by_cases e : q = t
  · rw [e] at h3; exact hc h3
  · exact hc (lt_mono' h h3 (ltC_le h (hM.s1 q t hq1 (by omega) h2)))
theorem last_hi {c : Int → Int → Int} (h : OrdC c) {a m b t : Nat} {xs : List Int} (hM : MergeP c a m b xs) (h1 : a ≤ t) (hc : c (xs.getD m 0) (xs.getD t 0) < 0) {q : Nat} (hq1 : t ≤ q) (hq2 : q < m) : c (xs.getD m 0) (xs.getD q 0) < 0 := by
  by_cases e : q = t
  · rw [e]; exact hc
  · exact lt_mono' h hc (ltC_le h (hM.s1 t q h1 (by omega) hq2))
def loS (a m b mid : Nat) : Nat := if mid < m then mid + m - b else a
def hiS (m mid : Nat) : Nat := if mid < m then mid else m
structure CutP (c : Int → Int → Int) (a m b mid s : Nat) (xs : List Int) : Prop where
  r1 : loS a m b mid ≤ s
  r2 : s ≤ hiS m mid
  no : ∀ q, loS a m b mid ≤ q → q < s → ¬ c (xs.getD (mid + m - 1 - q) 0) (xs.getD q 0) < 0
  yes : ∀ q, s ≤ q → q < hiS m mid → c (xs.getD (mid + m - 1 - q) 0) (xs.getD q 0) < 0
theorem cut_lo {c : Int → Int → Int} (h : OrdC c) {a m b mid t : Nat} {xs : List Int} (hM : MergeP c a m b xs) (hmid : mid = (a + b) / 2) (h1 : loS a m b mid ≤ t) (h2 : t < hiS m mid) (hc : ¬ c (xs.getD (mid + m - 1 - t) 0) (xs.getD t 0) < 0) {q : Nat} (hq1 : loS a m b mid ≤ q) (hq2 : q ≤ t) : ¬ c (xs.getD (mid + m - 1 - q) 0) (xs.getD q 0) < 0 := fun h3 => by
  have := hM.am; have := hM.mb
  unfold loS at h1 hq1
  unfold hiS at h2
  by_cases e : q = t
  · rw [e] at h3; exact hc h3
  · refine hc (lt_mono h (ltC_le h (hM.s2 (mid + m - 1 - t) (mid + m - 1 - q) ?_ ?_ ?_)) (lt_mono' h h3 (ltC_le h (hM.s1 q t ?_ (by omega) ?_)))) <;> (split at h1 <;> split at h2 <;> split at hq1 <;> omega)
theorem cut_hi {c : Int → Int → Int} (h : OrdC c) {a m b mid t : Nat} {xs : List Int} (hM : MergeP c a m b xs) (hmid : mid = (a + b) / 2) (h1 : loS a m b mid ≤ t) (hc : c (xs.getD (mid + m - 1 - t) 0) (xs.getD t 0) < 0) {q : Nat} (hq1 : t ≤ q) (hq2 : q < hiS m mid) : c (xs.getD (mid + m - 1 - q) 0) (xs.getD q 0) < 0 := by
  have := hM.am; have := hM.mb
  unfold loS at h1
  unfold hiS at hq2
  by_cases e : q = t
  · rw [e]; exact hc
  · refine lt_mono h (ltC_le h (hM.s2 (mid + m - 1 - q) (mid + m - 1 - t) ?_ ?_ ?_)) (lt_mono' h hc (ltC_le h (hM.s1 t q ?_ (by omega) ?_))) <;> (split at h1 <;> split at hq2 <;> omega)
theorem cut_b {a m b mid s : Nat} (ham : a < m) (hmb : m < b) (hmid : mid = (a + b) / 2) (h1 : loS a m b mid ≤ s) (h2 : s ≤ hiS m mid) : a ≤ s ∧ s ≤ m ∧ m ≤ mid + m - s ∧ mid + m - s ≤ b ∧ s ≤ mid ∧ mid ≤ mid + m - s ∧ a < mid ∧ mid < b := by
  unfold loS at h1; unfold hiS at h2
  split at h1 <;> split at h2 <;> omega
theorem cut_parts {c : Int → Int → Int} (h : OrdC c) {a m b mid s : Nat} {xs : List Int} (hM : MergeP c a m b xs) (hmid : mid = (a + b) / 2) (hC : CutP c a m b mid s xs) :
    SegP a b xs (rotL xs s m (mid + m - s)) ∧ (a < s → s < mid → MergeP c a s mid (rotL xs s m (mid + m - s))) ∧ (¬ (a < s ∧ s < mid) → Sd c a mid (rotL xs s m (mid + m - s))) ∧ (mid < mid + m - s → mid + m - s < b → MergeP c mid (mid + m - s) b (rotL xs s m (mid + m - s))) ∧ (¬ (mid < mid + m - s ∧ mid + m - s < b) → Sd c mid b (rotL xs s m (mid + m - s))) ∧ (∀ p q, a ≤ p → p < mid → mid ≤ q → q < b → ltC c ((rotL xs s m (mid + m - s)).getD p 0) ((rotL xs s m (mid + m - s)).getD q 0)) ∧ (∀ i j, a ≤ i → i < j → j < b → (rotL xs s m (mid + m - s)).getD i 0 ≠ (rotL xs s m (mid + m - s)).getD j 0) := by
  obtain ⟨b1, b2, b3, b4, b5, b6, b7, b8⟩ := cut_b hM.am hM.mb hmid hC.r1 hC.r2
  have hbl := hM.bl
  have ham := hM.am
  have hmb := hM.mb
  generalize he : mid + m - s = e at *
  have g1 : ∀ p, p < s → (rotL xs s m e).getD p 0 = xs.getD p 0 := fun p hp => by rw [rotL_get b2 b3 (by omega), if_pos hp]
  have g2 : ∀ p, s ≤ p → p < mid → (rotL xs s m e).getD p 0 = xs.getD (p + (m - s)) 0 := fun p h1 h2 => by rw [rotL_get b2 b3 (by omega), if_neg (by omega), if_pos (by omega)]
  have g3 : ∀ p, mid ≤ p → p < e → (rotL xs s m e).getD p 0 = xs.getD (p - (e - m)) 0 := fun p h1 h2 => by rw [rotL_get b2 b3 (by omega), if_neg (by omega), if_neg (by omega), if_pos h2]
  have g4 : ∀ p, e ≤ p → (rotL xs s m e).getD p 0 = xs.getD p 0 := fun p h1 => by rw [rotL_get b2 b3 (by omega), if_neg (by omega), if_neg (by omega), if_neg (by omega)]
  -- the cut
  have k1 : ∀ p q, a ≤ p → p < s → e ≤ q → q < b → ltC c (xs.getD p 0) (xs.getD q 0) := fun p q h1 h2 h3 h4 => by
    have h5 := hC.no (s - 1) (by unfold loS; split <;> omega) (by omega)
    rw [show mid + m - 1 - (s - 1) = e by omega] at h5
    have h6 := ltC_of_not h h5 (hM.cross (s - 1) e (by omega) (by omega) b3 (by omega))
    have h7 : ltC c (xs.getD p 0) (xs.getD e 0) := by
      by_cases e1 : p = s - 1
      · rw [e1]; exact h6
      · exact ltC_trans h (hM.s1 p (s - 1) h1 (by omega) (by omega)) h6
    by_cases e2 : q = e
    · rw [e2]; exact h7
    · exact ltC_trans h h7 (hM.s2 e q b3 (by omega) h4)
  have k2 : ∀ p q, m ≤ p → p < e → s ≤ q → q < m → ltC c (xs.getD p 0) (xs.getD q 0) := fun p q h1 h2 h3 h4 => by
    have h5 := hC.yes s (Nat.le_refl _) (by unfold hiS; split <;> omega)
    rw [show mid + m - 1 - s = e - 1 by omega] at h5
    have h6 : ltC c (xs.getD (e - 1) 0) (xs.getD s 0) := .inl h5
    have h7 : ltC c (xs.getD p 0) (xs.getD s 0) := by
      by_cases e1 : p = e - 1
      · rw [e1]; exact h6
      · exact ltC_trans h (hM.s2 p (e - 1) h1 (by omega) (by omega)) h6
    by_cases e2 : q = s
    · rw [e2]; exact h7
    · exact ltC_trans h h7 (hM.s1 s q b1 (by omega) h4)
  have sA1 : Sd c a s (rotL xs s m e) := fun i j h1 h2 h3 => by rw [g1 i (by omega), g1 j h3]; exact hM.s1 i j h1 h2 (by omega)
  have sB1 : Sd c s mid (rotL xs s m e) := fun i j h1 h2 h3 => by rw [g2 i h1 (by omega), g2 j (by omega) h3]; exact hM.s2 _ _ (by omega) (by omega) (by omega)
  have sA2 : Sd c mid e (rotL xs s m e) := fun i j h1 h2 h3 => by rw [g3 i h1 (by omega), g3 j (by omega) h3]; exact hM.s1 _ _ (by omega) (by omega) (by omega)
  have sB2 : Sd c e b (rotL xs s m e) := fun i j h1 h2 h3 => by rw [g4 i h1, g4 j (by omega)]; exact hM.s2 _ _ (by omega) (by omega) (by omega)
  have cr : ∀ p q, a ≤ p → p < mid → mid ≤ q → q < b → ltC c ((rotL xs s m e).getD p 0) ((rotL xs s m e).getD q 0) := fun p q h1 h2 h3 h4 => by
    by_cases e1 : p < s
    · rw [g1 p e1]
      by_cases e2 : q < e
      · rw [g3 q h3 e2]; exact hM.s1 _ _ h1 (by omega) (by omega)
      · rw [g4 q (by omega)]; exact k1 p q h1 e1 (by omega) h4
    · rw [g2 p (by omega) h2]
      by_cases e2 : q < e
      · rw [g3 q h3 e2]; exact k2 _ _ (by omega) (by omega) (by omega) (by omega)
      · rw [g4 q (by omega)]; exact hM.s2 _ _ (by omega) (by omega) (by omega)
  have hlen : (rotL xs s m e).length = xs.length := rotL_len b2 b3 (by omega)
  have c1 : ∀ p q, a ≤ p → p < s → s ≤ q → q < mid → (rotL xs s m e).getD p 0 < (rotL xs s m e).getD q 0 := fun p q h1 h2 h3 h4 => by
    rw [g1 p h2, g2 q h3 h4]; exact hM.cross _ _ h1 (by omega) (by omega) (by omega)
  have c2 : ∀ p q, mid ≤ p → p < e → e ≤ q → q < b → (rotL xs s m e).getD p 0 < (rotL xs s m e).getD q 0 := fun p q h1 h2 h3 h4 => by
    rw [g3 p h1 h2, g4 q h3]; exact hM.cross _ _ (by omega) (by omega) (by omega) (by omega)
  refine ⟨⟨rotL_perm b2 b3, fun i hi => ?_⟩, fun h1 h2 => ⟨h1, h2, by omega, sA1, sB1, c1⟩, fun h1 => ?_, fun h1 h2 => ⟨h1, h2, by omega, sA2, sB2, c2⟩, fun h1 => ?_, cr, fun i j h1 h2 h3 => ?_⟩
  · rcases hi with hi | hi
    · exact g1 i (by omega)
    · exact g4 i (by omega)
  · by_cases e1 : a < s
    · rw [show mid = s by omega]; exact sA1
    · rw [show a = s by omega]; exact sB1
  · by_cases e1 : mid < e
    · rw [show b = e by omega]; exact sA2
    · rw [show mid = e by omega]; exact sB2
  · intro heq
    by_cases e1 : j < mid
    · by_cases e2 : i < s
      · by_cases e3 : j < s
        · exact ltC_irrefl h (heq ▸ sA1 i j h1 h2 e3)
        · have := c1 i j h1 e2 (by omega) e1; omega
      · exact ltC_irrefl h (heq ▸ sB1 i j (by omega) h2 e1)
    · by_cases e2 : i < mid
      · exact ltC_irrefl h (heq ▸ cr i j h1 e2 (by omega) h3)
      · by_cases e3 : i < e
        · by_cases e4 : j < e
          · exact ltC_irrefl h (heq ▸ sA2 i j (by omega) h2 e4)
          · have := c2 i j (by omega) e3 (by omega) h3; omega
        · exact ltC_irrefl h (heq ▸ sB2 i j (by omega) h2 h3)
theorem merge_dis {c : Int → Int → Int} (h : OrdC c) {a m b : Nat} {xs : List Int} (hM : MergeP c a m b xs) : ∀ i j, a ≤ i → i < j → j < b → xs.getD i 0 ≠ xs.getD j 0 := fun i j h1 h2 h3 heq => by
  by_cases e1 : j < m
  · exact ltC_irrefl h (heq ▸ hM.s1 i j h1 h2 e1)
  · by_cases e2 : i < m
    · have := hM.cross i j h1 e2 (by omega) h3; omega
    · exact ltC_irrefl h (heq ▸ hM.s2 i j (by omega) h2 h3)
theorem srt_same {c : Int → Int → Int} (h : OrdC c) {a b : Nat} {xs : List Int} (hab : a ≤ b) (hbl : b ≤ xs.length) (s : Sd c a b xs) : srt c a b xs = xs := srt_eq h hab hbl .rfl' s
theorem merge_all {c : Int → Int → Int} (h : OrdC c) {a m b mid s : Nat} {xs : List Int} (hM : MergeP c a m b xs) (hmid : mid = (a + b) / 2) (hC : CutP c a m b mid s xs) : srt c a b xs = srt c mid b (srt c a mid (rotL xs s m (mid + m - s))) ∧
    (mid < mid + m - s → mid + m - s < b → MergeP c mid (mid + m - s) b (srt c a mid (rotL xs s m (mid + m - s)))) ∧ (¬ (mid < mid + m - s ∧ mid + m - s < b) → Sd c mid b (srt c a mid (rotL xs s m (mid + m - s)))) := by
  obtain ⟨b1, b2, b3, b4, b5, b6, b7, b8⟩ := cut_b hM.am hM.mb hmid hC.r1 hC.r2
  obtain ⟨p1, p2, p3, p4, p5, p6, p7⟩ := cut_parts h hM hmid hC
  have hbl := hM.bl
  generalize mid + m - s = e at *
  generalize hy : rotL xs s m e = ys at *
  have hyl := p1.len
  obtain ⟨q1, q2⟩ := srt_ok h (show a ≤ mid by omega) (by omega : mid ≤ ys.length) (fun i j h1 h2 h3 => p7 i j h1 h2 (by omega))
  generalize hz : srt c a mid ys = zs at *
  have hzl := q1.len
  have up : ∀ i, mid ≤ i → zs.getD i 0 = ys.getD i 0 := fun i hi => q1.out i (.inr hi)
  have p7' : ∀ i j, mid ≤ i → i < j → j < b → zs.getD i 0 ≠ zs.getD j 0 := fun i j h1 h2 h3 => by rw [up i h1, up j (by omega)]; exact p7 i j (by omega) h2 h3
  obtain ⟨r1, r2⟩ := srt_ok h (show mid ≤ b by omega) (by omega : b ≤ zs.length) p7'
  refine ⟨?_, fun h1 h2 => ?_, fun h1 => ?_⟩
  · generalize hw : srt c mid b zs = ws at *
    refine srt_eq h (by omega) hbl ((p1.trans (q1.wide (Nat.le_refl _) (by omega))).trans (r1.wide (by omega) (Nat.le_refl _))) (fun i j h1 h2 h3 => ?_)
    have lo : ∀ i, i < mid → ws.getD i 0 = zs.getD i 0 := fun i hi => r1.out i (.inl hi)
    by_cases e1 : j < mid
    · rw [lo i (by omega), lo j e1]; exact q2 i j h1 h2 e1
    · by_cases e2 : i < mid
      · obtain ⟨u, u1, u2, u3⟩ := q1.mem (by omega) (by omega) h1 e2
        obtain ⟨v, v1, v2, v3⟩ := r1.mem (by omega) (by omega) (show mid ≤ j by omega) h3
        rw [lo i e2, u3, v3, up v v1]
        exact p6 u v u1 u2 v1 v2
      · exact r2 i j (by omega) h2 h3
  · obtain ⟨m1, m2, m3, m4, m5, m6⟩ := p4 h1 h2
    exact ⟨m1, m2, by omega, fun i j k1 k2 k3 => by rw [up i k1, up j (by omega)]; exact m4 i j k1 k2 k3, fun i j k1 k2 k3 => by rw [up i (by omega), up j (by omega)]; exact m5 i j k1 k2 k3, fun p q k1 k2 k3 k4 => by rw [up p k1, up q (by omega)]; exact m6 p q k1 k2 k3 k4⟩
  · have := p5 h1
    exact fun i j k1 k2 k3 => by rw [up i k1, up j (by omega)]; exact this i j k1 k2 k3
theorem srt_perm (c : Int → Int → Int) (a b : Nat) (xs : List Int) : (srt c a b xs).Perm xs := by
  unfold srt
  split
  · rename_i h; exact (Classical.choose_spec h).1.perm
  · exact .refl _
theorem srt_len (c : Int → Int → Int) (a b : Nat) (xs : List Int) : (srt c a b xs).length = xs.length := (srt_perm c a b xs).length_eq
/-! ### Blocks -/
def iotaL (n : Nat) : List Int := (List.range n).map fun k : Nat => (k : Int)
theorem iotaL_len (n : Nat) : (iotaL n).length = n := by simp [iotaL]
theorem iotaL_get {n i : Nat} (h : i < n) : (iotaL n).getD i 0 = (i : Int) := by simp [iotaL, List.getD, h]
theorem iotaL_mem {n : Nat} {v : Int} (h : v ∈ iotaL n) : 0 ≤ v ∧ v < n := by
  simp only [iotaL, List.mem_map, List.mem_range] at h
  obtain ⟨k, h1, rfl⟩ := h
  omega
theorem iotaL_suc (n : Nat) : iotaL (n + 1) = iotaL n ++ [(n : Int)] := by simp [iotaL, List.range_succ]
def Same (w i j : Nat) : Prop := j < w ∨ (w ≤ i ∧ j < 2 * w) ∨ 2 * w ≤ i
structure Blk (c : Int → Int → Int) (n p : Nat) (ys : List Int) : Prop where
  perm : ys.Perm (iotaL n)
  sd : ∀ i j, i < j → j < p → Same 20 i j → ltC c (ys.getD i 0) (ys.getD j 0)
  lt : ∀ i j, i < j → j < n → (p ≤ j ∨ ¬ Same 20 i j) → ys.getD i 0 < ys.getD j 0
theorem blk_0 (c : Int → Int → Int) (n : Nat) : Blk c n 0 (iotaL n) := ⟨.refl _, fun i j _ h => by omega, fun i j h1 h2 _ => by rw [iotaL_get (by omega), iotaL_get h2]; omega⟩
theorem Blk.len {c : Int → Int → Int} {n p : Nat} {ys : List Int} (h : Blk c n p ys) : ys.length = n := by rw [h.perm.length_eq, iotaL_len]
theorem blk_step {c : Int → Int → Int} (h : OrdC c) {n p q : Nat} {ys : List Int} (hB : Blk c n p ys) (hp : p = 0 ∨ p = 20 ∨ p = 40 ∨ p = 60) (h1 : p ≤ q) (h2 : q ≤ p + 20) (hq : q ≤ n) (hn : n ≤ 60) (hq2 : q = p + 20 ∨ q = n) : Blk c n q (srt c p q ys) := by
  have hl := hB.len
  obtain ⟨s1, s2⟩ := srt_ok h h1 (by omega : q ≤ ys.length) (fun i j a1 a2 a3 => by have := hB.lt i j a2 (by omega) (.inl (by omega)); omega)
  generalize srt c p q ys = zs at *
  have get : ∀ i, i < n → ∃ i', zs.getD i 0 = ys.getD i' 0 ∧ ((i < p ∧ i' = i) ∨ (p ≤ i ∧ i < q ∧ p ≤ i' ∧ i' < q) ∨ (q ≤ i ∧ i' = i)) := fun i hi => by
    by_cases e1 : i < p
    · exact ⟨i, s1.out i (.inl e1), .inl ⟨e1, rfl⟩⟩
    · by_cases e2 : i < q
      · obtain ⟨i', a1, a2, a3⟩ := s1.mem h1 (by omega) (show p ≤ i by omega) e2
        exact ⟨i', a3, .inr (.inl ⟨by omega, e2, a1, a2⟩)⟩
      · exact ⟨i, s1.out i (.inr (by omega)), .inr (.inr ⟨by omega, rfl⟩)⟩
  refine ⟨s1.perm.trans hB.perm, fun i j a1 a2 a3 => ?_, fun i j a1 a2 a3 => ?_⟩
  · by_cases e1 : j < p
    · rw [s1.out i (.inl (by omega)), s1.out j (.inl e1)]
      exact hB.sd i j a1 e1 a3
    · by_cases e2 : p ≤ i
      · exact s2 i j e2 a1 a2
      · exfalso; unfold Same at a3; omega
  · obtain ⟨i', g1, g2⟩ := get i (by omega)
    obtain ⟨j', g3, g4⟩ := get j a2
    rw [g1, g3]
    unfold Same at a3
    rcases g4 with g4 | g4 | g4
    · refine hB.lt i' j' (by omega) (by omega) (.inr ?_)
      unfold Same; omega
    · exact hB.lt i' j' (by omega) (by omega) (.inl (by omega))
    · exact hB.lt i' j' (by omega) (by omega) (.inl (by omega))
structure Lv (c : Int → Int → Int) (n w : Nat) (ys : List Int) : Prop where
  perm : ys.Perm (iotaL n)
  sd : ∀ i j, i < j → j < n → Same w i j → ltC c (ys.getD i 0) (ys.getD j 0)
  lt : ∀ i j, i < j → j < n → ¬ Same w i j → ys.getD i 0 < ys.getD j 0
theorem blk_lv {c : Int → Int → Int} {n : Nat} {ys : List Int} (hB : Blk c n n ys) : Lv c n 20 ys := ⟨hB.perm, fun i j h1 h2 h3 => hB.sd i j h1 h2 h3, fun i j h1 h2 h3 => hB.lt i j h1 h2 (.inr h3)⟩
structure Half (c : Int → Int → Int) (n w p : Nat) (ys : List Int) : Prop where
  perm : ys.Perm (iotaL n)
  lo : Sd c 0 p ys
  mid : ∀ i j, i < p → p ≤ j → j < n → ys.getD i 0 < ys.getD j 0
  sd : ∀ i j, p ≤ i → i < j → j < n → Same w i j → ltC c (ys.getD i 0) (ys.getD j 0)
  lt : ∀ i j, p ≤ i → i < j → j < n → ¬ Same w i j → ys.getD i 0 < ys.getD j 0
theorem Half.len {c : Int → Int → Int} {n w p : Nat} {ys : List Int} (h : Half c n w p ys) : ys.length = n := by rw [h.perm.length_eq, iotaL_len]
theorem half_0 {c : Int → Int → Int} {n w : Nat} {ys : List Int} (h : Lv c n w ys) : Half c n w 0 ys := ⟨h.perm, fun i j _ _ h => by omega, fun i j h => by omega, fun i j _ => h.sd i j, fun i j _ => h.lt i j⟩
theorem half_merge {c : Int → Int → Int} {n w p b : Nat} {ys : List Int} (hH : Half c n w p ys) (hp : p = 0 ∨ p = 2 * w) (hw : 20 ≤ w) (h1 : p + w < b) (h2 : b ≤ p + 2 * w) (hb : b ≤ n) (hn : n ≤ 60) : MergeP c p (p + w) b ys := by
  have hl := hH.len
  refine ⟨by omega, h1, by omega, fun i j a1 a2 a3 => hH.sd i j a1 a2 (by omega) ?_, fun i j a1 a2 a3 => hH.sd i j (by omega) a2 (by omega) ?_, fun i j a1 a2 a3 a4 => hH.lt i j a1 (by omega) (by omega) ?_⟩ <;> (unfold Same; omega)
theorem half_step {c : Int → Int → Int} (h : OrdC c) {n w : Nat} {ys : List Int} (hH : Half c n w 0 ys) (hw : 20 ≤ w) (hb : 2 * w ≤ n) (hn : n ≤ 60) : Half c n w (2 * w) (srt c 0 (2 * w) ys) := by
  have hl := hH.len
  obtain ⟨s1, s2⟩ := srt_ok h (Nat.zero_le _) (by omega : 2 * w ≤ ys.length) (merge_dis h (half_merge hH (.inl rfl) hw (by omega) (by omega) hb hn))
  generalize srt c 0 (2 * w) ys = zs at *
  have up : ∀ i, 2 * w ≤ i → zs.getD i 0 = ys.getD i 0 := fun i hi => s1.out i (.inr hi)
  refine ⟨s1.perm.trans hH.perm, s2, fun i j a1 a2 a3 => ?_, fun i j a1 a2 a3 a4 => ?_, fun i j a1 a2 a3 a4 => ?_⟩
  · obtain ⟨i', b1, b2, b3⟩ := s1.mem (Nat.zero_le _) (by omega) (Nat.zero_le i) a1
    rw [b3, up j a2]
    exact hH.lt i' j (Nat.zero_le _) (by omega) a3 (by unfold Same; omega)
  · rw [up i a1, up j (by omega)]; exact hH.sd i j (Nat.zero_le _) a2 a3 a4
  · rw [up i a1, up j (by omega)]; exact hH.lt i j (Nat.zero_le _) a2 a3 a4
theorem half_end {c : Int → Int → Int} (h : OrdC c) {n w p : Nat} {ys : List Int} (hH : Half c n w p ys) (hp : p = 0 ∨ p = 2 * w) (hw : 20 ≤ w) (hnp : n < p + 2 * w) (hpn : p ≤ n) (hn : n ≤ 60) : Lv c n (2 * w) (if p + w < n then srt c p n ys else ys) := by
  have hl := hH.len
  have key : ∀ zs, SegP p n ys zs → Sd c p n zs → Lv c n (2 * w) zs := fun zs s1 s2 => by
    refine ⟨s1.perm.trans hH.perm, fun i j a1 a2 a3 => ?_, fun i j a1 a2 a3 => ?_⟩
    · unfold Same at a3
      by_cases e : p ≤ i
      · exact s2 i j e a1 a2
      · rw [s1.out i (.inl (by omega)), s1.out j (.inl (by omega))]
        exact hH.lo i j (Nat.zero_le _) a1 (by omega)
    · unfold Same at a3
      obtain ⟨j', b1, b2, b3⟩ := s1.mem (by omega) (by omega) (show p ≤ j by omega) a2
      rw [s1.out i (.inl (by omega)), b3]
      exact hH.mid i j' (by omega) b1 b2
  by_cases e : p + w < n
  · rw [if_pos e]
    obtain ⟨s1, s2⟩ := srt_ok h hpn (by omega : n ≤ ys.length) (merge_dis h (half_merge hH hp hw e (by omega) (Nat.le_refl _) hn))
    exact key _ s1 s2
  · rw [if_neg e]
    exact key ys .rfl' (fun i j a1 a2 a3 => hH.sd i j a1 a2 a3 (by unfold Same; omega))
theorem lv_end {c : Int → Int → Int} (h : OrdC c) {n w : Nat} {ys : List Int} (hL : Lv c n w ys) (hw : n ≤ w) : srt c 0 n (iotaL n) = ys := by
  have hl : ys.length = n := by rw [hL.perm.length_eq, iotaL_len]
  exact srt_eq h (Nat.zero_le _) (by rw [iotaL_len]; exact Nat.le_refl _) ⟨hL.perm, fun i hi => by simp [List.getD, show n ≤ i by omega, hl, iotaL_len]⟩ (fun i j _ a2 a3 => hL.sd i j a2 a3 (by unfold Same; omega))

theorem natadd (a b : Nat) : (a : Int) + (b : Int) = ((a + b : Nat) : Int) := rfl
theorem natadd1 (a : Nat) : (a : Int) + 1 = ((a + 1 : Nat) : Int) := rfl
theorem natsub {a b : Nat} (h : b ≤ a) : (a : Int) - (b : Int) = ((a - b : Nat) : Int) := by omega
theorem natsub1 {a : Nat} (h : 1 ≤ a) : (a : Int) - 1 = ((a - 1 : Nat) : Int) := by omega
theorem tn1 (j : Nat) : ((j : Int) - 1).toNat = j - 1 := by omega
theorem natmul2 (a : Nat) : 2 * (a : Int) = ((2 * a : Nat) : Int) := by omega
theorem natmul2' (a : Nat) : (a : Int) * 2 = ((2 * a : Nat) : Int) := by omega
theorem wU64 {n : Int} (h1 : 0 ≤ n) (h2 : n ≤ 18446744073709551615) : IntKind.u64.wrap n = n := by
  simp only [IntKind.wrap, IntKind.bits, IntKind.signed]; simp; omega
theorem hfd (n : Nat) : ((n : Int)).fdiv (2 ^ (min (Int.toNat 1) IntKind.u64.bits)) = ((n / 2 : Nat) : Int) := by
  have e : (2 : Int) ^ (min (Int.toNat 1) IntKind.u64.bits) = 2 := by decide
  rw [e, Int.fdiv_eq_ediv_of_nonneg _ (by omega)]
  omega
structure CmpOk (c : Int → Int → Int) (N : Int) (fn : D) : Prop where
  ord : OrdC c
  does : Does Pr (fun p : Int × Int => [i64D p.1, i64D p.2]) (fun p => (0 ≤ p.1 ∧ p.1 < N) ∧ 0 ≤ p.2 ∧ p.2 < N) (fun p => i64D (c p.1 p.2)) fn
def Rng (N : Int) (xs : List Int) : Prop := ∀ v ∈ xs, 0 ≤ v ∧ v < N
theorem Rng.get {N : Int} {xs : List Int} (h : Rng N xs) {i : Nat} (hi : i < xs.length) : 0 ≤ xs.getD i 0 ∧ xs.getD i 0 < N := h _ (getD_mem' hi)
theorem Rng.perm {N : Int} {xs ys : List Int} (h : Rng N xs) (hp : ys.Perm xs) : Rng N ys := fun v hv => h v (hp.mem_iff.1 hv)

noncomputable abbrev s_slices_swapRangeCmpFunc_int : Spec (List Int × Nat × Nat × Nat × D) where
  args := fun x => [.own 0, .val (.int .i64 ((x.2.1 : Nat) : Int)), .val (.int .i64 ((x.2.2.1 : Nat) : Int)), .val (.int .i64 ((x.2.2.2.1 : Nat) : Int)), x.2.2.2.2]
  pre := fun x => x.2.1 + x.2.2.2.1 ≤ x.2.2.1 ∧ x.2.2.1 + x.2.2.2.1 ≤ x.1.length ∧ x.1.length ≤ 1048576
  obs := fun x => [⟨3, 1, false, i64s x.1⟩]
  out := fun x => [⟨3, 1, false, i64s (swR x.1 x.2.1 x.2.2.1 x.2.2.2.1)⟩]
  res := fun x => .tup []

set_option maxRecDepth 20000 in
set_option maxHeartbeats 4000000 in
theorem ok_slices_swapRangeCmpFunc_int : FnOk Pr 80 s_slices_swapRangeCmpFunc_int := by
  refine fn_ok 5 1 T0_ok Go.Proofs.Try.func80 rfl (enters_of Go.Proofs.Try.func80 rfl rfl) (fun _ => rfl) (fun _ => rfl) (fun _ => rfl) ?_
  rintro ⟨xs, a, b, k, fn⟩ ⟨h1, h2, h3⟩ C hP hN hm hG
  change awp C _ _ ⟨[(0, .own 0), (1, .val (.int .i64 ((a : Nat) : Int))), (2, .val (.int .i64 ((b : Nat) : Int))), (3, .val (.int .i64 ((k : Nat) : Int))), (4, fn)], [(0, ⟨3, 1, false, i64s xs⟩)], 1⟩
  simp only at h1 h2 h3
  refine awp_seq ?_
  refine r1 T0_ok hP hm hN ?_
  refine g1 ?_ (hst := by simp +decide (disch := omega) only [nrm, lk_nrm, dc_nrm, mk_nrm, mf_nrm, ti_nrm, ls_nrm, mp_nrm, nb_nrm, hset, pick_and, pick_or, ↓reduceIte, Nat.reduceAdd, wI64, wI32, wI16, wI8, wU8, List.length_map, Int.toNat_natCast, i64s_set, tn1, natadd, natadd1, natsub, natsub1, natmul2, natmul2', wU64, hfd]; rfl)
  refine awp_block ?_
  refine awp_loop (fun n st => ∃ i : Nat, i ≤ k ∧ n = k - i ∧ st = ⟨[(10, .val (.int .i64 ((i : Nat) : Int))), (0, .own 0), (1, .val (.int .i64 ((a : Nat) : Int))), (2, .val (.int .i64 ((b : Nat) : Int))), (3, .val (.int .i64 ((k : Nat) : Int))), (4, fn)], [(0, ⟨3, 1, false, i64s (swR xs a b i)⟩)], 1⟩) (k) ⟨_, weak_sl (sub_cons rfl (sub_cons rfl (sub_cons rfl (sub_cons rfl (sub_cons rfl (sub_cons rfl (sub_nil))))))), 0, by omega, rfl, rfl⟩ ?_
  rintro n st ⟨i, hii, hni, rfl⟩
  have hsl := swR_len xs a b i
  refine awp_seq ?_
  refine awp_seq ?_
  refine r1 T0_ok hP hm hN ?_
  refine g1 ?_ (hst := by simp +decide (disch := omega) only [nrm, lk_nrm, dc_nrm, mk_nrm, mf_nrm, ti_nrm, ls_nrm, mp_nrm, nb_nrm, hset, pick_and, pick_or, ↓reduceIte, Nat.reduceAdd, wI64, wI32, wI16, wI8, wU8, List.length_map, Int.toNat_natCast, i64s_set, tn1, natadd, natadd1, natsub, natsub1, natmul2, natmul2', wU64, hfd]; rfl)
  refine g1 ?_ (hst := by simp +decide (disch := omega) only [nrm, lk_nrm, dc_nrm, mk_nrm, mf_nrm, ti_nrm, ls_nrm, mp_nrm, nb_nrm, hset, pick_and, pick_or, ↓reduceIte, Nat.reduceAdd, wI64, wI32, wI16, wI8, wU8, List.length_map, Int.toNat_natCast, i64s_set, tn1, natadd, natadd1, natsub, natsub1, natmul2, natmul2', wU64, hfd]; rfl)
  refine g1 ?_ (hst := by simp +decide (disch := omega) only [nrm, lk_nrm, dc_nrm, mk_nrm, mf_nrm, ti_nrm, ls_nrm, mp_nrm, nb_nrm, hset, pick_and, pick_or, ↓reduceIte, Nat.reduceAdd, wI64, wI32, wI16, wI8, wU8, List.length_map, Int.toNat_natCast, i64s_set, tn1, natadd, natadd1, natsub, natsub1, natmul2, natmul2', wU64, hfd]; rfl)
  refine awp_cond rfl (fun hc0 => ?_) (fun hc0 => ?_)
  · skip
    have hlti : i < k := by simpa using hc0
    refine awp_skip ?_
    refine awp_seq ?_
    refine awp_block ?_
    refine awp_draw T0_ok hP hm hN Pr_mix [] [21, 22, 23] _ rfl (by rfl) ?_
    refine d1 T0_ok ?_ (hdn := by simp +decide (disch := omega) only [nrm, lk_nrm, dc_nrm, mk_nrm, mf_nrm, ti_nrm, ls_nrm, mp_nrm, nb_nrm, hset, pick_and, pick_or, ↓reduceIte, Nat.reduceAdd, wI64, wI32, wI16, wI8, wU8, List.length_map, Int.toNat_natCast, i64s_set, tn1, natadd, natadd1, natsub, natsub1, natmul2, natmul2', wU64, hfd, mask_nrm]; rfl) (hsl := by simp +decide (disch := omega) only [nrm, lk_nrm, dc_nrm, mk_nrm, mf_nrm, ti_nrm, ls_nrm, mp_nrm, nb_nrm, hset, pick_and, pick_or, ↓reduceIte, Nat.reduceAdd, wI64, wI32, wI16, wI8, wU8, List.length_map, Int.toNat_natCast, i64s_set, tn1, natadd, natadd1, natsub, natsub1, natmul2, natmul2', wU64, hfd, mask_nrm]; rfl)
    refine d1 T0_ok ?_ (hdn := by simp +decide (disch := omega) only [nrm, lk_nrm, dc_nrm, mk_nrm, mf_nrm, ti_nrm, ls_nrm, mp_nrm, nb_nrm, hset, pick_and, pick_or, ↓reduceIte, Nat.reduceAdd, wI64, wI32, wI16, wI8, wU8, List.length_map, Int.toNat_natCast, i64s_set, tn1, natadd, natadd1, natsub, natsub1, natmul2, natmul2', wU64, hfd, mask_nrm]; rfl) (hsl := by simp +decide (disch := omega) only [nrm, lk_nrm, dc_nrm, mk_nrm, mf_nrm, ti_nrm, ls_nrm, mp_nrm, nb_nrm, hset, pick_and, pick_or, ↓reduceIte, Nat.reduceAdd, wI64, wI32, wI16, wI8, wU8, List.length_map, Int.toNat_natCast, i64s_set, tn1, natadd, natadd1, natsub, natsub1, natmul2, natmul2', wU64, hfd, mask_nrm]; rfl)
    refine d1 T0_ok ?_ (hdn := by simp +decide (disch := omega) only [nrm, lk_nrm, dc_nrm, mk_nrm, mf_nrm, ti_nrm, ls_nrm, mp_nrm, nb_nrm, hset, pick_and, pick_or, ↓reduceIte, Nat.reduceAdd, wI64, wI32, wI16, wI8, wU8, List.length_map, Int.toNat_natCast, i64s_set, tn1, natadd, natadd1, natsub, natsub1, natmul2, natmul2', wU64, hfd, mask_nrm]; rfl) (hsl := by simp +decide (disch := omega) only [nrm, lk_nrm, dc_nrm, mk_nrm, mf_nrm, ti_nrm, ls_nrm, mp_nrm, nb_nrm, hset, pick_and, pick_or, ↓reduceIte, Nat.reduceAdd, wI64, wI32, wI16, wI8, wU8, List.length_map, Int.toNat_natCast, i64s_set, tn1, natadd, natadd1, natsub, natsub1, natmul2, natmul2', wU64, hfd, mask_nrm]; rfl)
    refine d1 T0_ok ?_ (hdn := by simp +decide (disch := omega) only [nrm, lk_nrm, dc_nrm, mk_nrm, mf_nrm, ti_nrm, ls_nrm, mp_nrm, nb_nrm, hset, pick_and, pick_or, ↓reduceIte, Nat.reduceAdd, wI64, wI32, wI16, wI8, wU8, List.length_map, Int.toNat_natCast, i64s_set, tn1, natadd, natadd1, natsub, natsub1, natmul2, natmul2', wU64, hfd, mask_nrm]; rfl) (hsl := by simp +decide (disch := omega) only [nrm, lk_nrm, dc_nrm, mk_nrm, mf_nrm, ti_nrm, ls_nrm, mp_nrm, nb_nrm, hset, pick_and, pick_or, ↓reduceIte, Nat.reduceAdd, wI64, wI32, wI16, wI8, wU8, List.length_map, Int.toNat_natCast, i64s_set, tn1, natadd, natadd1, natsub, natsub1, natmul2, natmul2', wU64, hfd, mask_nrm]; rfl)
    refine d1 T0_ok ?_ (hdn := by simp +decide (disch := omega) only [nrm, lk_nrm, dc_nrm, mk_nrm, mf_nrm, ti_nrm, ls_nrm, mp_nrm, nb_nrm, hset, pick_and, pick_or, ↓reduceIte, Nat.reduceAdd, wI64, wI32, wI16, wI8, wU8, List.length_map, Int.toNat_natCast, i64s_set, tn1, natadd, natadd1, natsub, natsub1, natmul2, natmul2', wU64, hfd, mask_nrm]; rfl) (hsl := by simp +decide (disch := omega) only [nrm, lk_nrm, dc_nrm, mk_nrm, mf_nrm, ti_nrm, ls_nrm, mp_nrm, nb_nrm, hset, pick_and, pick_or, ↓reduceIte, Nat.reduceAdd, wI64, wI32, wI16, wI8, wU8, List.length_map, Int.toNat_natCast, i64s_set, tn1, natadd, natadd1, natsub, natsub1, natmul2, natmul2', wU64, hfd, mask_nrm]; rfl)
    refine d1 T0_ok ?_ (hdn := by simp +decide (disch := omega) only [nrm, lk_nrm, dc_nrm, mk_nrm, mf_nrm, ti_nrm, ls_nrm, mp_nrm, nb_nrm, hset, pick_and, pick_or, ↓reduceIte, Nat.reduceAdd, wI64, wI32, wI16, wI8, wU8, List.length_map, Int.toNat_natCast, i64s_set, tn1, natadd, natadd1, natsub, natsub1, natmul2, natmul2', wU64, hfd, mask_nrm]; rfl) (hsl := by simp +decide (disch := omega) only [nrm, lk_nrm, dc_nrm, mk_nrm, mf_nrm, ti_nrm, ls_nrm, mp_nrm, nb_nrm, hset, pick_and, pick_or, ↓reduceIte, Nat.reduceAdd, wI64, wI32, wI16, wI8, wU8, List.length_map, Int.toNat_natCast, i64s_set, tn1, natadd, natadd1, natsub, natsub1, natmul2, natmul2', wU64, hfd, mask_nrm]; rfl)
    refine d1 T0_ok ?_ (hdn := by simp +decide (disch := omega) only [nrm, lk_nrm, dc_nrm, mk_nrm, mf_nrm, ti_nrm, ls_nrm, mp_nrm, nb_nrm, hset, pick_and, pick_or, ↓reduceIte, Nat.reduceAdd, wI64, wI32, wI16, wI8, wU8, List.length_map, Int.toNat_natCast, i64s_set, tn1, natadd, natadd1, natsub, natsub1, natmul2, natmul2', wU64, hfd, mask_nrm]; rfl) (hsl := by simp +decide (disch := omega) only [nrm, lk_nrm, dc_nrm, mk_nrm, mf_nrm, ti_nrm, ls_nrm, mp_nrm, nb_nrm, hset, pick_and, pick_or, ↓reduceIte, Nat.reduceAdd, wI64, wI32, wI16, wI8, wU8, List.length_map, Int.toNat_natCast, i64s_set, tn1, natadd, natadd1, natsub, natsub1, natmul2, natmul2', wU64, hfd, mask_nrm]; rfl)
    refine d1 T0_ok ?_ (hdn := by simp +decide (disch := omega) only [nrm, lk_nrm, dc_nrm, mk_nrm, mf_nrm, ti_nrm, ls_nrm, mp_nrm, nb_nrm, hset, pick_and, pick_or, ↓reduceIte, Nat.reduceAdd, wI64, wI32, wI16, wI8, wU8, List.length_map, Int.toNat_natCast, i64s_set, tn1, natadd, natadd1, natsub, natsub1, natmul2, natmul2', wU64, hfd, mask_nrm]; rfl) (hsl := by simp +decide (disch := omega) only [nrm, lk_nrm, dc_nrm, mk_nrm, mf_nrm, ti_nrm, ls_nrm, mp_nrm, nb_nrm, hset, pick_and, pick_or, ↓reduceIte, Nat.reduceAdd, wI64, wI32, wI16, wI8, wU8, List.length_map, Int.toNat_natCast, i64s_set, tn1, natadd, natadd1, natsub, natsub1, natmul2, natmul2', wU64, hfd, mask_nrm]; rfl)
    refine d1 T0_ok ?_ (hdn := by simp +decide (disch := omega) only [nrm, lk_nrm, dc_nrm, mk_nrm, mf_nrm, ti_nrm, ls_nrm, mp_nrm, nb_nrm, hset, pick_and, pick_or, ↓reduceIte, Nat.reduceAdd, wI64, wI32, wI16, wI8, wU8, List.length_map, Int.toNat_natCast, i64s_set, tn1, natadd, natadd1, natsub, natsub1, natmul2, natmul2', wU64, hfd, mask_nrm]; rfl) (hsl := by simp +decide (disch := omega) only [nrm, lk_nrm, dc_nrm, mk_nrm, mf_nrm, ti_nrm, ls_nrm, mp_nrm, nb_nrm, hset, pick_and, pick_or, ↓reduceIte, Nat.reduceAdd, wI64, wI32, wI16, wI8, wU8, List.length_map, Int.toNat_natCast, i64s_set, tn1, natadd, natadd1, natsub, natsub1, natmul2, natmul2', wU64, hfd, mask_nrm]; rfl)
    refine d1 T0_ok ?_ (hdn := by simp +decide (disch := omega) only [nrm, lk_nrm, dc_nrm, mk_nrm, mf_nrm, ti_nrm, ls_nrm, mp_nrm, nb_nrm, hset, pick_and, pick_or, ↓reduceIte, Nat.reduceAdd, wI64, wI32, wI16, wI8, wU8, List.length_map, Int.toNat_natCast, i64s_set, tn1, natadd, natadd1, natsub, natsub1, natmul2, natmul2', wU64, hfd, mask_nrm]; rfl) (hsl := by simp +decide (disch := omega) only [nrm, lk_nrm, dc_nrm, mk_nrm, mf_nrm, ti_nrm, ls_nrm, mp_nrm, nb_nrm, hset, pick_and, pick_or, ↓reduceIte, Nat.reduceAdd, wI64, wI32, wI16, wI8, wU8, List.length_map, Int.toNat_natCast, i64s_set, tn1, natadd, natadd1, natsub, natsub1, natmul2, natmul2', wU64, hfd, mask_nrm]; rfl)
    refine d1 T0_ok ?_ (hdn := by simp +decide (disch := omega) only [nrm, lk_nrm, dc_nrm, mk_nrm, mf_nrm, ti_nrm, ls_nrm, mp_nrm, nb_nrm, hset, pick_and, pick_or, ↓reduceIte, Nat.reduceAdd, wI64, wI32, wI16, wI8, wU8, List.length_map, Int.toNat_natCast, i64s_set, tn1, natadd, natadd1, natsub, natsub1, natmul2, natmul2', wU64, hfd, mask_nrm]; rfl) (hsl := by simp +decide (disch := omega) only [nrm, lk_nrm, dc_nrm, mk_nrm, mf_nrm, ti_nrm, ls_nrm, mp_nrm, nb_nrm, hset, pick_and, pick_or, ↓reduceIte, Nat.reduceAdd, wI64, wI32, wI16, wI8, wU8, List.length_map, Int.toNat_natCast, i64s_set, tn1, natadd, natadd1, natsub, natsub1, natmul2, natmul2', wU64, hfd, mask_nrm]; rfl)
    refine d1 T0_ok ?_ (hdn := by simp +decide (disch := omega) only [nrm, lk_nrm, dc_nrm, mk_nrm, mf_nrm, ti_nrm, ls_nrm, mp_nrm, nb_nrm, hset, pick_and, pick_or, ↓reduceIte, Nat.reduceAdd, wI64, wI32, wI16, wI8, wU8, List.length_map, Int.toNat_natCast, i64s_set, tn1, natadd, natadd1, natsub, natsub1, natmul2, natmul2', wU64, hfd, mask_nrm]; rfl) (hsl := by simp +decide (disch := omega) only [nrm, lk_nrm, dc_nrm, mk_nrm, mf_nrm, ti_nrm, ls_nrm, mp_nrm, nb_nrm, hset, pick_and, pick_or, ↓reduceIte, Nat.reduceAdd, wI64, wI32, wI16, wI8, wU8, List.length_map, Int.toNat_natCast, i64s_set, tn1, natadd, natadd1, natsub, natsub1, natmul2, natmul2', wU64, hfd, mask_nrm]; rfl)
    refine dx1 T0_ok ?_ (hdn := by simp +decide (disch := omega) only [nrm, lk_nrm, dc_nrm, mk_nrm, mf_nrm, ti_nrm, ls_nrm, mp_nrm, nb_nrm, hset, pick_and, pick_or, ↓reduceIte, Nat.reduceAdd, wI64, wI32, wI16, wI8, wU8, List.length_map, Int.toNat_natCast, i64s_set, tn1, natadd, natadd1, natsub, natsub1, natmul2, natmul2', wU64, hfd, mask_nrm]; rfl) (hsl := by simp +decide (disch := omega) only [nrm, lk_nrm, dc_nrm, mk_nrm, mf_nrm, ti_nrm, ls_nrm, mp_nrm, nb_nrm, hset, pick_and, pick_or, ↓reduceIte, Nat.reduceAdd, wI64, wI32, wI16, wI8, wU8, List.length_map, Int.toNat_natCast, i64s_set, tn1, natadd, natadd1, natsub, natsub1, natmul2, natmul2', wU64, hfd, mask_nrm]; rfl)
    refine dx1 T0_ok ?_ (hdn := by simp +decide (disch := omega) only [nrm, lk_nrm, dc_nrm, mk_nrm, mf_nrm, ti_nrm, ls_nrm, mp_nrm, nb_nrm, hset, pick_and, pick_or, ↓reduceIte, Nat.reduceAdd, wI64, wI32, wI16, wI8, wU8, List.length_map, Int.toNat_natCast, i64s_set, tn1, natadd, natadd1, natsub, natsub1, natmul2, natmul2', wU64, hfd, mask_nrm]; rfl) (hsl := by simp +decide (disch := omega) only [nrm, lk_nrm, dc_nrm, mk_nrm, mf_nrm, ti_nrm, ls_nrm, mp_nrm, nb_nrm, hset, pick_and, pick_or, ↓reduceIte, Nat.reduceAdd, wI64, wI32, wI16, wI8, wU8, List.length_map, Int.toNat_natCast, i64s_set, tn1, natadd, natadd1, natsub, natsub1, natmul2, natmul2', wU64, hfd, mask_nrm]; rfl)
    refine d1 T0_ok ?_ (hdn := by simp +decide (disch := omega) only [nrm, lk_nrm, dc_nrm, mk_nrm, mf_nrm, ti_nrm, ls_nrm, mp_nrm, nb_nrm, hset, pick_and, pick_or, ↓reduceIte, Nat.reduceAdd, wI64, wI32, wI16, wI8, wU8, List.length_map, Int.toNat_natCast, i64s_set, tn1, natadd, natadd1, natsub, natsub1, natmul2, natmul2', wU64, hfd, mask_nrm]; rfl) (hsl := by simp +decide (disch := omega) only [nrm, lk_nrm, dc_nrm, mk_nrm, mf_nrm, ti_nrm, ls_nrm, mp_nrm, nb_nrm, hset, pick_and, pick_or, ↓reduceIte, Nat.reduceAdd, wI64, wI32, wI16, wI8, wU8, List.length_map, Int.toNat_natCast, i64s_set, tn1, natadd, natadd1, natsub, natsub1, natmul2, natmul2', wU64, hfd, mask_nrm]; rfl)
    refine d1 T0_ok ?_ (hdn := by simp +decide (disch := omega) only [nrm, lk_nrm, dc_nrm, mk_nrm, mf_nrm, ti_nrm, ls_nrm, mp_nrm, nb_nrm, hset, pick_and, pick_or, ↓reduceIte, Nat.reduceAdd, wI64, wI32, wI16, wI8, wU8, List.length_map, Int.toNat_natCast, i64s_set, tn1, natadd, natadd1, natsub, natsub1, natmul2, natmul2', wU64, hfd, mask_nrm]; rfl) (hsl := by simp +decide (disch := omega) only [nrm, lk_nrm, dc_nrm, mk_nrm, mf_nrm, ti_nrm, ls_nrm, mp_nrm, nb_nrm, hset, pick_and, pick_or, ↓reduceIte, Nat.reduceAdd, wI64, wI32, wI16, wI8, wU8, List.length_map, Int.toNat_natCast, i64s_set, tn1, natadd, natadd1, natsub, natsub1, natmul2, natmul2', wU64, hfd, mask_nrm]; rfl)
    refine d1 T0_ok ?_ (hdn := by simp +decide (disch := omega) only [nrm, lk_nrm, dc_nrm, mk_nrm, mf_nrm, ti_nrm, ls_nrm, mp_nrm, nb_nrm, hset, pick_and, pick_or, ↓reduceIte, Nat.reduceAdd, wI64, wI32, wI16, wI8, wU8, List.length_map, Int.toNat_natCast, i64s_set, tn1, natadd, natadd1, natsub, natsub1, natmul2, natmul2', wU64, hfd, mask_nrm]; rfl) (hsl := by simp +decide (disch := omega) only [nrm, lk_nrm, dc_nrm, mk_nrm, mf_nrm, ti_nrm, ls_nrm, mp_nrm, nb_nrm, hset, pick_and, pick_or, ↓reduceIte, Nat.reduceAdd, wI64, wI32, wI16, wI8, wU8, List.length_map, Int.toNat_natCast, i64s_set, tn1, natadd, natadd1, natsub, natsub1, natmul2, natmul2', wU64, hfd, mask_nrm]; rfl)
    refine d1 T0_ok ?_ (hdn := by simp +decide (disch := omega) only [nrm, lk_nrm, dc_nrm, mk_nrm, mf_nrm, ti_nrm, ls_nrm, mp_nrm, nb_nrm, hset, pick_and, pick_or, ↓reduceIte, Nat.reduceAdd, wI64, wI32, wI16, wI8, wU8, List.length_map, Int.toNat_natCast, i64s_set, tn1, natadd, natadd1, natsub, natsub1, natmul2, natmul2', wU64, hfd, mask_nrm]; rfl) (hsl := by simp +decide (disch := omega) only [nrm, lk_nrm, dc_nrm, mk_nrm, mf_nrm, ti_nrm, ls_nrm, mp_nrm, nb_nrm, hset, pick_and, pick_or, ↓reduceIte, Nat.reduceAdd, wI64, wI32, wI16, wI8, wU8, List.length_map, Int.toNat_natCast, i64s_set, tn1, natadd, natadd1, natsub, natsub1, natmul2, natmul2', wU64, hfd, mask_nrm]; rfl)
    refine dx1 T0_ok ?_ (hdn := by simp +decide (disch := omega) only [nrm, lk_nrm, dc_nrm, mk_nrm, mf_nrm, ti_nrm, ls_nrm, mp_nrm, nb_nrm, hset, pick_and, pick_or, ↓reduceIte, Nat.reduceAdd, wI64, wI32, wI16, wI8, wU8, List.length_map, Int.toNat_natCast, i64s_set, tn1, natadd, natadd1, natsub, natsub1, natmul2, natmul2', wU64, hfd, mask_nrm]; rfl) (hsl := by simp +decide (disch := omega) only [nrm, lk_nrm, dc_nrm, mk_nrm, mf_nrm, ti_nrm, ls_nrm, mp_nrm, nb_nrm, hset, pick_and, pick_or, ↓reduceIte, Nat.reduceAdd, wI64, wI32, wI16, wI8, wU8, List.length_map, Int.toNat_natCast, i64s_set, tn1, natadd, natadd1, natsub, natsub1, natmul2, natmul2', wU64, hfd, mask_nrm]; rfl)
    refine dx1 T0_ok ?_ (hdn := by simp +decide (disch := omega) only [nrm, lk_nrm, dc_nrm, mk_nrm, mf_nrm, ti_nrm, ls_nrm, mp_nrm, nb_nrm, hset, pick_and, pick_or, ↓reduceIte, Nat.reduceAdd, wI64, wI32, wI16, wI8, wU8, List.length_map, Int.toNat_natCast, i64s_set, tn1, natadd, natadd1, natsub, natsub1, natmul2, natmul2', wU64, hfd, mask_nrm]; rfl) (hsl := by simp +decide (disch := omega) only [nrm, lk_nrm, dc_nrm, mk_nrm, mf_nrm, ti_nrm, ls_nrm, mp_nrm, nb_nrm, hset, pick_and, pick_or, ↓reduceIte, Nat.reduceAdd, wI64, wI32, wI16, wI8, wU8, List.length_map, Int.toNat_natCast, i64s_set, tn1, natadd, natadd1, natsub, natsub1, natmul2, natmul2', wU64, hfd, mask_nrm]; rfl)
    refine dx1 T0_ok ?_ (hdn := by simp +decide (disch := omega) only [nrm, lk_nrm, dc_nrm, mk_nrm, mf_nrm, ti_nrm, ls_nrm, mp_nrm, nb_nrm, hset, pick_and, pick_or, ↓reduceIte, Nat.reduceAdd, wI64, wI32, wI16, wI8, wU8, List.length_map, Int.toNat_natCast, i64s_set, tn1, natadd, natadd1, natsub, natsub1, natmul2, natmul2', wU64, hfd, mask_nrm]; rfl) (hsl := by simp +decide (disch := omega) only [nrm, lk_nrm, dc_nrm, mk_nrm, mf_nrm, ti_nrm, ls_nrm, mp_nrm, nb_nrm, hset, pick_and, pick_or, ↓reduceIte, Nat.reduceAdd, wI64, wI32, wI16, wI8, wU8, List.length_map, Int.toNat_natCast, i64s_set, tn1, natadd, natadd1, natsub, natsub1, natmul2, natmul2', wU64, hfd, mask_nrm]; rfl)
    refine dp1 ?_ (oprel_astep T0_ok (by first | rfl | exact astep_load_p (by rfl) (by rfl) (by rfl) (by exact i64s_get _ _ (by omega)) (by rfl) | exact astep_store_p (by rfl) (by rfl) (by rfl) (by rfl) (by exact i64s_get _ _ (by first | omega | (simp only [List.length_set]; omega)))) rfl (by first | trivial | rfl | exact ⟨rfl, rfl⟩ | exact ⟨rfl, rfl, fun _ => rfl, Nat.le_of_ble_eq_true rfl, .inl rfl⟩ | exact ⟨rfl, rfl, fun h => (nomatch h), Nat.le_of_ble_eq_true rfl, .inl rfl⟩ | exact ⟨rfl, rfl, fun _ => rfl, Nat.le_of_ble_eq_true rfl, .inr rfl⟩ | exact ⟨rfl, rfl, fun h => (nomatch h), Nat.le_of_ble_eq_true rfl, .inr rfl⟩ | omega | exact ⟨rfl, by (repeat (first | exact fm_nil | refine fm_cons ⟨rfl, rfl⟩ ?_)), Nat.le_of_ble_eq_true rfl, Nat.le_of_ble_eq_true rfl⟩ | (refine ⟨?_, ?_, ?_, ?_, ?_, ?_, ?_⟩ <;> first | omega | exact Nat.le_of_ble_eq_true rfl) | exact ⟨rfl, by omega, by (try simp only [List.length_map, List.length_set]); omega⟩ | exact ⟨rfl, by omega, by simp only [Int.toNat_natCast]; omega, by omega, Nat.le_of_ble_eq_true rfl, rfl⟩)) (hdn := by simp +decide (disch := omega) only [nrm, lk_nrm, dc_nrm, mk_nrm, mf_nrm, ti_nrm, ls_nrm, mp_nrm, nb_nrm, hset, pick_and, pick_or, ↓reduceIte, Nat.reduceAdd, wI64, wI32, wI16, wI8, wU8, List.length_map, Int.toNat_natCast, i64s_set, tn1, natadd, natadd1, natsub, natsub1, natmul2, natmul2', wU64, hfd, mask_nrm]; rfl) (hhp := by simp +decide (disch := omega) only [nrm, lk_nrm, dc_nrm, mk_nrm, mf_nrm, ti_nrm, ls_nrm, mp_nrm, nb_nrm, hset, pick_and, pick_or, ↓reduceIte, Nat.reduceAdd, wI64, wI32, wI16, wI8, wU8, List.length_map, Int.toNat_natCast, i64s_set, tn1, natadd, natadd1, natsub, natsub1, natmul2, natmul2', wU64, hfd, mask_nrm]; try rfl) (hnx := by simp +decide (disch := omega) only [nrm, lk_nrm, dc_nrm, mk_nrm, mf_nrm, ti_nrm, ls_nrm, mp_nrm, nb_nrm, hset, pick_and, pick_or, ↓reduceIte, Nat.reduceAdd, wI64, wI32, wI16, wI8, wU8, List.length_map, Int.toNat_natCast, i64s_set, tn1, natadd, natadd1, natsub, natsub1, natmul2, natmul2', wU64, hfd, mask_nrm]; try rfl) (hsl := by simp +decide (disch := omega) only [nrm, lk_nrm, dc_nrm, mk_nrm, mf_nrm, ti_nrm, ls_nrm, mp_nrm, nb_nrm, hset, pick_and, pick_or, ↓reduceIte, Nat.reduceAdd, wI64, wI32, wI16, wI8, wU8, List.length_map, Int.toNat_natCast, i64s_set, tn1, natadd, natadd1, natsub, natsub1, natmul2, natmul2', wU64, hfd, mask_nrm]; rfl)
    refine dp1 ?_ (oprel_astep T0_ok (by first | rfl | exact astep_load_p (by rfl) (by rfl) (by rfl) (by exact i64s_get _ _ (by omega)) (by rfl) | exact astep_store_p (by rfl) (by rfl) (by rfl) (by rfl) (by exact i64s_get _ _ (by first | omega | (simp only [List.length_set]; omega)))) rfl (by first | trivial | rfl | exact ⟨rfl, rfl⟩ | exact ⟨rfl, rfl, fun _ => rfl, Nat.le_of_ble_eq_true rfl, .inl rfl⟩ | exact ⟨rfl, rfl, fun h => (nomatch h), Nat.le_of_ble_eq_true rfl, .inl rfl⟩ | exact ⟨rfl, rfl, fun _ => rfl, Nat.le_of_ble_eq_true rfl, .inr rfl⟩ | exact ⟨rfl, rfl, fun h => (nomatch h), Nat.le_of_ble_eq_true rfl, .inr rfl⟩ | omega | exact ⟨rfl, by (repeat (first | exact fm_nil | refine fm_cons ⟨rfl, rfl⟩ ?_)), Nat.le_of_ble_eq_true rfl, Nat.le_of_ble_eq_true rfl⟩ | (refine ⟨?_, ?_, ?_, ?_, ?_, ?_, ?_⟩ <;> first | omega | exact Nat.le_of_ble_eq_true rfl) | exact ⟨rfl, by omega, by (try simp only [List.length_map, List.length_set]); omega⟩ | exact ⟨rfl, by omega, by simp only [Int.toNat_natCast]; omega, by omega, Nat.le_of_ble_eq_true rfl, rfl⟩)) (hdn := by simp +decide (disch := omega) only [nrm, lk_nrm, dc_nrm, mk_nrm, mf_nrm, ti_nrm, ls_nrm, mp_nrm, nb_nrm, hset, pick_and, pick_or, ↓reduceIte, Nat.reduceAdd, wI64, wI32, wI16, wI8, wU8, List.length_map, Int.toNat_natCast, i64s_set, tn1, natadd, natadd1, natsub, natsub1, natmul2, natmul2', wU64, hfd, mask_nrm]; rfl) (hhp := by simp +decide (disch := omega) only [nrm, lk_nrm, dc_nrm, mk_nrm, mf_nrm, ti_nrm, ls_nrm, mp_nrm, nb_nrm, hset, pick_and, pick_or, ↓reduceIte, Nat.reduceAdd, wI64, wI32, wI16, wI8, wU8, List.length_map, Int.toNat_natCast, i64s_set, tn1, natadd, natadd1, natsub, natsub1, natmul2, natmul2', wU64, hfd, mask_nrm]; try rfl) (hnx := by simp +decide (disch := omega) only [nrm, lk_nrm, dc_nrm, mk_nrm, mf_nrm, ti_nrm, ls_nrm, mp_nrm, nb_nrm, hset, pick_and, pick_or, ↓reduceIte, Nat.reduceAdd, wI64, wI32, wI16, wI8, wU8, List.length_map, Int.toNat_natCast, i64s_set, tn1, natadd, natadd1, natsub, natsub1, natmul2, natmul2', wU64, hfd, mask_nrm]; try rfl) (hsl := by simp +decide (disch := omega) only [nrm, lk_nrm, dc_nrm, mk_nrm, mf_nrm, ti_nrm, ls_nrm, mp_nrm, nb_nrm, hset, pick_and, pick_or, ↓reduceIte, Nat.reduceAdd, wI64, wI32, wI16, wI8, wU8, List.length_map, Int.toNat_natCast, i64s_set, tn1, natadd, natadd1, natsub, natsub1, natmul2, natmul2', wU64, hfd, mask_nrm]; rfl)
    refine dp1 ?_ (oprel_astep T0_ok (by first | rfl | exact astep_load_p (by rfl) (by rfl) (by rfl) (by exact i64s_get _ _ (by omega)) (by rfl) | exact astep_store_p (by rfl) (by rfl) (by rfl) (by rfl) (by exact i64s_get _ _ (by first | omega | (simp only [List.length_set]; omega)))) rfl (by first | trivial | rfl | exact ⟨rfl, rfl⟩ | exact ⟨rfl, rfl, fun _ => rfl, Nat.le_of_ble_eq_true rfl, .inl rfl⟩ | exact ⟨rfl, rfl, fun h => (nomatch h), Nat.le_of_ble_eq_true rfl, .inl rfl⟩ | exact ⟨rfl, rfl, fun _ => rfl, Nat.le_of_ble_eq_true rfl, .inr rfl⟩ | exact ⟨rfl, rfl, fun h => (nomatch h), Nat.le_of_ble_eq_true rfl, .inr rfl⟩ | omega | exact ⟨rfl, by (repeat (first | exact fm_nil | refine fm_cons ⟨rfl, rfl⟩ ?_)), Nat.le_of_ble_eq_true rfl, Nat.le_of_ble_eq_true rfl⟩ | (refine ⟨?_, ?_, ?_, ?_, ?_, ?_, ?_⟩ <;> first | omega | exact Nat.le_of_ble_eq_true rfl) | exact ⟨rfl, by omega, by (try simp only [List.length_map, List.length_set]); omega⟩ | exact ⟨rfl, by omega, by simp only [Int.toNat_natCast]; omega, by omega, Nat.le_of_ble_eq_true rfl, rfl⟩)) (hdn := by simp +decide (disch := omega) only [nrm, lk_nrm, dc_nrm, mk_nrm, mf_nrm, ti_nrm, ls_nrm, mp_nrm, nb_nrm, hset, pick_and, pick_or, ↓reduceIte, Nat.reduceAdd, wI64, wI32, wI16, wI8, wU8, List.length_map, Int.toNat_natCast, i64s_set, tn1, natadd, natadd1, natsub, natsub1, natmul2, natmul2', wU64, hfd, mask_nrm]; rfl) (hhp := by simp +decide (disch := omega) only [nrm, lk_nrm, dc_nrm, mk_nrm, mf_nrm, ti_nrm, ls_nrm, mp_nrm, nb_nrm, hset, pick_and, pick_or, ↓reduceIte, Nat.reduceAdd, wI64, wI32, wI16, wI8, wU8, List.length_map, Int.toNat_natCast, i64s_set, tn1, natadd, natadd1, natsub, natsub1, natmul2, natmul2', wU64, hfd, mask_nrm]; try rfl) (hnx := by simp +decide (disch := omega) only [nrm, lk_nrm, dc_nrm, mk_nrm, mf_nrm, ti_nrm, ls_nrm, mp_nrm, nb_nrm, hset, pick_and, pick_or, ↓reduceIte, Nat.reduceAdd, wI64, wI32, wI16, wI8, wU8, List.length_map, Int.toNat_natCast, i64s_set, tn1, natadd, natadd1, natsub, natsub1, natmul2, natmul2', wU64, hfd, mask_nrm]; try rfl) (hsl := by simp +decide (disch := omega) only [nrm, lk_nrm, dc_nrm, mk_nrm, mf_nrm, ti_nrm, ls_nrm, mp_nrm, nb_nrm, hset, pick_and, pick_or, ↓reduceIte, Nat.reduceAdd, wI64, wI32, wI16, wI8, wU8, List.length_map, Int.toNat_natCast, i64s_set, tn1, natadd, natadd1, natsub, natsub1, natmul2, natmul2', wU64, hfd, mask_nrm]; rfl)
    refine dreg_nil ?_
    refine r1 T0_ok hP hm hN ?_
    refine g1 ?_ (hst := by simp +decide (disch := omega) only [nrm, lk_nrm, dc_nrm, mk_nrm, mf_nrm, ti_nrm, ls_nrm, mp_nrm, nb_nrm, hset, pick_and, pick_or, ↓reduceIte, Nat.reduceAdd, wI64, wI32, wI16, wI8, wU8, List.length_map, Int.toNat_natCast, i64s_set, tn1, natadd, natadd1, natsub, natsub1, natmul2, natmul2', wU64, hfd]; rfl)
    refine g1 ?_ (hst := by simp +decide (disch := omega) only [nrm, lk_nrm, dc_nrm, mk_nrm, mf_nrm, ti_nrm, ls_nrm, mp_nrm, nb_nrm, hset, pick_and, pick_or, ↓reduceIte, Nat.reduceAdd, wI64, wI32, wI16, wI8, wU8, List.length_map, Int.toNat_natCast, i64s_set, tn1, natadd, natadd1, natsub, natsub1, natmul2, natmul2', wU64, hfd]; rfl)
    refine g1 ?_ (hst := by simp +decide (disch := omega) only [nrm, lk_nrm, dc_nrm, mk_nrm, mf_nrm, ti_nrm, ls_nrm, mp_nrm, nb_nrm, hset, pick_and, pick_or, ↓reduceIte, Nat.reduceAdd, wI64, wI32, wI16, wI8, wU8, List.length_map, Int.toNat_natCast, i64s_set, tn1, natadd, natadd1, natsub, natsub1, natmul2, natmul2', wU64, hfd]; rfl)
    refine ⟨k - (i + 1), _, by omega, (by rw [swR, swp]; exact weak_sl (sub_cons rfl (sub_cons rfl (sub_cons rfl (sub_cons rfl (sub_cons rfl (sub_cons rfl (sub_nil)))))))), i + 1, by omega, rfl, rfl⟩
  · skip
    have hgei : ¬ i < k := by simpa using hc0
    have heqi : i = k := by omega
    rw [heqi]
    refine awp_exit ?_
    repeat refine thenA_exit ?_
    refine blockA_hit ?_
    refine fin_mk [] rfl rfl ?_ (objs_cons rfl rfl rfl rfl rfl (.inl rfl) objs_nil) (by decide)
    rfl

noncomputable abbrev s_slices_rotateCmpFunc_int : Spec (List Int × Nat × Nat × Nat × D × (Int → Int → Int) × Int) where
  args := fun x => [.own 0, .val (.int .i64 ((x.2.1 : Nat) : Int)), .val (.int .i64 ((x.2.2.1 : Nat) : Int)), .val (.int .i64 ((x.2.2.2.1 : Nat) : Int)), x.2.2.2.2.1]
  pre := fun x => (x.2.1 < x.2.2.1 ∧ x.2.2.1 < x.2.2.2.1 ∧ x.2.2.2.1 ≤ x.1.length ∧ x.1.length ≤ 1048576) ∧ CmpOk x.2.2.2.2.2.1 x.2.2.2.2.2.2 x.2.2.2.2.1
  obs := fun x => [⟨3, 1, false, i64s x.1⟩]
  out := fun x => [⟨3, 1, false, i64s (rotL x.1 x.2.1 x.2.2.1 x.2.2.2.1)⟩]
  res := fun x => .tup []

set_option maxRecDepth 20000 in
set_option maxHeartbeats 4000000 in
theorem ok_slices_rotateCmpFunc_int : FnOk Pr 78 s_slices_rotateCmpFunc_int := by
  refine fn_ok 5 1 T0_ok Go.Proofs.Try.func78 rfl (enters_of Go.Proofs.Try.func78 rfl rfl) (fun _ => rfl) (fun _ => rfl) (fun _ => rfl) ?_
  rintro ⟨xs, a, m, b, fn, c, N⟩ ⟨⟨h1, h2, h3, h4⟩, hC⟩ C hP hN hm hG
  change awp C _ _ ⟨[(0, .own 0), (1, .val (.int .i64 ((a : Nat) : Int))), (2, .val (.int .i64 ((m : Nat) : Int))), (3, .val (.int .i64 ((b : Nat) : Int))), (4, fn)], [(0, ⟨3, 1, false, i64s xs⟩)], 1⟩
  simp only at h1 h2 h3 h4 hC
  have hdo := hC.does
  refine awp_seq ?_
  refine r1 T0_ok hP hm hN ?_
  refine g1 ?_ (hst := by simp +decide (disch := omega) only [nrm, lk_nrm, dc_nrm, mk_nrm, mf_nrm, ti_nrm, ls_nrm, mp_nrm, nb_nrm, hset, pick_and, pick_or, ↓reduceIte, Nat.reduceAdd, wI64, wI32, wI16, wI8, wU8, List.length_map, Int.toNat_natCast, i64s_set, tn1, natadd, natadd1, natsub, natsub1, natmul2, natmul2', wU64, hfd]; rfl)
  refine g1 ?_ (hst := by simp +decide (disch := omega) only [nrm, lk_nrm, dc_nrm, mk_nrm, mf_nrm, ti_nrm, ls_nrm, mp_nrm, nb_nrm, hset, pick_and, pick_or, ↓reduceIte, Nat.reduceAdd, wI64, wI32, wI16, wI8, wU8, List.length_map, Int.toNat_natCast, i64s_set, tn1, natadd, natadd1, natsub, natsub1, natmul2, natmul2', wU64, hfd]; rfl)
  refine g1 ?_ (hst := by simp +decide (disch := omega) only [nrm, lk_nrm, dc_nrm, mk_nrm, mf_nrm, ti_nrm, ls_nrm, mp_nrm, nb_nrm, hset, pick_and, pick_or, ↓reduceIte, Nat.reduceAdd, wI64, wI32, wI16, wI8, wU8, List.length_map, Int.toNat_natCast, i64s_set, tn1, natadd, natadd1, natsub, natsub1, natmul2, natmul2', wU64, hfd]; rfl)
  refine g1 ?_ (hst := by simp +decide (disch := omega) only [nrm, lk_nrm, dc_nrm, mk_nrm, mf_nrm, ti_nrm, ls_nrm, mp_nrm, nb_nrm, hset, pick_and, pick_or, ↓reduceIte, Nat.reduceAdd, wI64, wI32, wI16, wI8, wU8, List.length_map, Int.toNat_natCast, i64s_set, tn1, natadd, natadd1, natsub, natsub1, natmul2, natmul2', wU64, hfd]; rfl)
  refine awp_seq ?_
  refine r1 T0_ok hP hm hN ?_
  refine g1 ?_ (hst := by simp +decide (disch := omega) only [nrm, lk_nrm, dc_nrm, mk_nrm, mf_nrm, ti_nrm, ls_nrm, mp_nrm, nb_nrm, hset, pick_and, pick_or, ↓reduceIte, Nat.reduceAdd, wI64, wI32, wI16, wI8, wU8, List.length_map, Int.toNat_natCast, i64s_set, tn1, natadd, natadd1, natsub, natsub1, natmul2, natmul2', wU64, hfd]; rfl)
  refine g1 ?_ (hst := by simp +decide (disch := omega) only [nrm, lk_nrm, dc_nrm, mk_nrm, mf_nrm, ti_nrm, ls_nrm, mp_nrm, nb_nrm, hset, pick_and, pick_or, ↓reduceIte, Nat.reduceAdd, wI64, wI32, wI16, wI8, wU8, List.length_map, Int.toNat_natCast, i64s_set, tn1, natadd, natadd1, natsub, natsub1, natmul2, natmul2', wU64, hfd]; rfl)
  refine g1 ?_ (hst := by simp +decide (disch := omega) only [nrm, lk_nrm, dc_nrm, mk_nrm, mf_nrm, ti_nrm, ls_nrm, mp_nrm, nb_nrm, hset, pick_and, pick_or, ↓reduceIte, Nat.reduceAdd, wI64, wI32, wI16, wI8, wU8, List.length_map, Int.toNat_natCast, i64s_set, tn1, natadd, natadd1, natsub, natsub1, natmul2, natmul2', wU64, hfd]; rfl)
  refine g1 ?_ (hst := by simp +decide (disch := omega) only [nrm, lk_nrm, dc_nrm, mk_nrm, mf_nrm, ti_nrm, ls_nrm, mp_nrm, nb_nrm, hset, pick_and, pick_or, ↓reduceIte, Nat.reduceAdd, wI64, wI32, wI16, wI8, wU8, List.length_map, Int.toNat_natCast, i64s_set, tn1, natadd, natadd1, natsub, natsub1, natmul2, natmul2', wU64, hfd]; rfl)
  refine awp_seq ?_
  refine awp_block ?_
  refine awp_loop (fun n st => ∃ (i j : Nat) (ys : List Int), 1 ≤ i ∧ 1 ≤ j ∧ i ≤ m ∧ m + j ≤ xs.length ∧ ys.length = xs.length ∧ rotL ys (m - i) m (m + j) = rotL xs a m b ∧ n = i + j ∧ st = ⟨[(10, .val (.int .i64 ((i : Nat) : Int))), (11, .val (.int .i64 ((j : Nat) : Int))), (0, .own 0), (2, .val (.int .i64 ((m : Nat) : Int))), (4, fn)], [(0, ⟨3, 1, false, i64s ys⟩)], 1⟩) (b - a) ⟨_, weak_sl (sub_cons rfl (sub_cons rfl (sub_cons rfl (sub_cons rfl (sub_cons rfl (sub_nil)))))), m - a, b - m, xs, by omega, by omega, by omega, by omega, rfl, (by rw [show m - (m - a) = a by omega, show m + (b - m) = b by omega]), by omega, rfl⟩ ?_
  rintro n st ⟨i, j, ys, hi, hj, him, hjl, hyl, hrot, hn, rfl⟩
  refine awp_seq ?_
  refine awp_seq ?_
  refine r1 T0_ok hP hm hN ?_
  refine g1 ?_ (hst := by simp +decide (disch := omega) only [nrm, lk_nrm, dc_nrm, mk_nrm, mf_nrm, ti_nrm, ls_nrm, mp_nrm, nb_nrm, hset, pick_and, pick_or, ↓reduceIte, Nat.reduceAdd, wI64, wI32, wI16, wI8, wU8, List.length_map, Int.toNat_natCast, i64s_set, tn1, natadd, natadd1, natsub, natsub1, natmul2, natmul2', wU64, hfd]; rfl)
  refine g1 ?_ (hst := by simp +decide (disch := omega) only [nrm, lk_nrm, dc_nrm, mk_nrm, mf_nrm, ti_nrm, ls_nrm, mp_nrm, nb_nrm, hset, pick_and, pick_or, ↓reduceIte, Nat.reduceAdd, wI64, wI32, wI16, wI8, wU8, List.length_map, Int.toNat_natCast, i64s_set, tn1, natadd, natadd1, natsub, natsub1, natmul2, natmul2', wU64, hfd]; rfl)
  refine g1 ?_ (hst := by simp +decide (disch := omega) only [nrm, lk_nrm, dc_nrm, mk_nrm, mf_nrm, ti_nrm, ls_nrm, mp_nrm, nb_nrm, hset, pick_and, pick_or, ↓reduceIte, Nat.reduceAdd, wI64, wI32, wI16, wI8, wU8, List.length_map, Int.toNat_natCast, i64s_set, tn1, natadd, natadd1, natsub, natsub1, natmul2, natmul2', wU64, hfd]; rfl)
  refine awp_cond rfl (fun hc0 => ?_) (fun hc0 => ?_)
  · skip
    have hne : i ≠ j := by rintro rfl; simp at hc0
    refine awp_skip ?_
    refine awp_block ?_
    refine awp_seq ?_
    refine r1 T0_ok hP hm hN ?_
    refine g1 ?_ (hst := by simp +decide (disch := omega) only [nrm, lk_nrm, dc_nrm, mk_nrm, mf_nrm, ti_nrm, ls_nrm, mp_nrm, nb_nrm, hset, pick_and, pick_or, ↓reduceIte, Nat.reduceAdd, wI64, wI32, wI16, wI8, wU8, List.length_map, Int.toNat_natCast, i64s_set, tn1, natadd, natadd1, natsub, natsub1, natmul2, natmul2', wU64, hfd]; rfl)
    refine g1 ?_ (hst := by simp +decide (disch := omega) only [nrm, lk_nrm, dc_nrm, mk_nrm, mf_nrm, ti_nrm, ls_nrm, mp_nrm, nb_nrm, hset, pick_and, pick_or, ↓reduceIte, Nat.reduceAdd, wI64, wI32, wI16, wI8, wU8, List.length_map, Int.toNat_natCast, i64s_set, tn1, natadd, natadd1, natsub, natsub1, natmul2, natmul2', wU64, hfd]; rfl)
    refine g1 ?_ (hst := by simp +decide (disch := omega) only [nrm, lk_nrm, dc_nrm, mk_nrm, mf_nrm, ti_nrm, ls_nrm, mp_nrm, nb_nrm, hset, pick_and, pick_or, ↓reduceIte, Nat.reduceAdd, wI64, wI32, wI16, wI8, wU8, List.length_map, Int.toNat_natCast, i64s_set, tn1, natadd, natadd1, natsub, natsub1, natmul2, natmul2', wU64, hfd]; rfl)
    refine awp_cond rfl (fun hc1 => ?_) (fun hc1 => ?_)
    · skip
      have hgt : j < i := by have h := hc1; simp only [decide_eq_true_eq] at h; omega
      refine awp_seq ?_
      refine r1 T0_ok hP hm hN ?_
      refine g1 ?_ (hst := by simp +decide (disch := omega) only [nrm, lk_nrm, dc_nrm, mk_nrm, mf_nrm, ti_nrm, ls_nrm, mp_nrm, nb_nrm, hset, pick_and, pick_or, ↓reduceIte, Nat.reduceAdd, wI64, wI32, wI16, wI8, wU8, List.length_map, Int.toNat_natCast, i64s_set, tn1, natadd, natadd1, natsub, natsub1, natmul2, natmul2', wU64, hfd]; rfl)
      refine g1 ?_ (hst := by simp +decide (disch := omega) only [nrm, lk_nrm, dc_nrm, mk_nrm, mf_nrm, ti_nrm, ls_nrm, mp_nrm, nb_nrm, hset, pick_and, pick_or, ↓reduceIte, Nat.reduceAdd, wI64, wI32, wI16, wI8, wU8, List.length_map, Int.toNat_natCast, i64s_set, tn1, natadd, natadd1, natsub, natsub1, natmul2, natmul2', wU64, hfd]; rfl)
      refine g1 ?_ (hst := by simp +decide (disch := omega) only [nrm, lk_nrm, dc_nrm, mk_nrm, mf_nrm, ti_nrm, ls_nrm, mp_nrm, nb_nrm, hset, pick_and, pick_or, ↓reduceIte, Nat.reduceAdd, wI64, wI32, wI16, wI8, wU8, List.length_map, Int.toNat_natCast, i64s_set, tn1, natadd, natadd1, natsub, natsub1, natmul2, natmul2', wU64, hfd]; rfl)
      refine g1 ?_ (hst := by simp +decide (disch := omega) only [nrm, lk_nrm, dc_nrm, mk_nrm, mf_nrm, ti_nrm, ls_nrm, mp_nrm, nb_nrm, hset, pick_and, pick_or, ↓reduceIte, Nat.reduceAdd, wI64, wI32, wI16, wI8, wU8, List.length_map, Int.toNat_natCast, i64s_set, tn1, natadd, natadd1, natsub, natsub1, natmul2, natmul2', wU64, hfd]; rfl)
      refine g1 ?_ (hst := by simp +decide (disch := omega) only [nrm, lk_nrm, dc_nrm, mk_nrm, mf_nrm, ti_nrm, ls_nrm, mp_nrm, nb_nrm, hset, pick_and, pick_or, ↓reduceIte, Nat.reduceAdd, wI64, wI32, wI16, wI8, wU8, List.length_map, Int.toNat_natCast, i64s_set, tn1, natadd, natadd1, natsub, natsub1, natmul2, natmul2', wU64, hfd]; rfl)
      refine g1 ?_ (hst := by simp +decide (disch := omega) only [nrm, lk_nrm, dc_nrm, mk_nrm, mf_nrm, ti_nrm, ls_nrm, mp_nrm, nb_nrm, hset, pick_and, pick_or, ↓reduceIte, Nat.reduceAdd, wI64, wI32, wI16, wI8, wU8, List.length_map, Int.toNat_natCast, i64s_set, tn1, natadd, natadd1, natsub, natsub1, natmul2, natmul2', wU64, hfd]; rfl)
      refine g1 ?_ (hst := by simp +decide (disch := omega) only [nrm, lk_nrm, dc_nrm, mk_nrm, mf_nrm, ti_nrm, ls_nrm, mp_nrm, nb_nrm, hset, pick_and, pick_or, ↓reduceIte, Nat.reduceAdd, wI64, wI32, wI16, wI8, wU8, List.length_map, Int.toNat_natCast, i64s_set, tn1, natadd, natadd1, natsub, natsub1, natmul2, natmul2', wU64, hfd]; rfl)
      refine gc1 ?_ (call1 ok_slices_swapRangeCmpFunc_int (ys, m - i, m, j, fn) [0] (hargs := (by (try dsimp only); exact args_cons (arga_own rfl) (args_cons arga_val (args_cons arga_val (args_cons arga_val (args_cons (arga_does hdo) args_nil)))))) (hpre := by (try dsimp only); exact ⟨by omega, by omega, by omega⟩)) (hst := by simp +decide (disch := omega) only [nrm, lk_nrm, dc_nrm, mk_nrm, mf_nrm, ti_nrm, ls_nrm, mp_nrm, nb_nrm, hset, pick_and, pick_or, ↓reduceIte, Nat.reduceAdd, wI64, wI32, wI16, wI8, wU8, List.length_map, Int.toNat_natCast, i64s_set, tn1, natadd, natadd1, natsub, natsub1, natmul2, natmul2', wU64, hfd]; rfl)
      refine r1 T0_ok hP hm hN ?_
      refine g1 ?_ (hst := by simp +decide (disch := omega) only [nrm, lk_nrm, dc_nrm, mk_nrm, mf_nrm, ti_nrm, ls_nrm, mp_nrm, nb_nrm, hset, pick_and, pick_or, ↓reduceIte, Nat.reduceAdd, wI64, wI32, wI16, wI8, wU8, List.length_map, Int.toNat_natCast, i64s_set, tn1, natadd, natadd1, natsub, natsub1, natmul2, natmul2', wU64, hfd]; rfl)
      refine g1 ?_ (hst := by simp +decide (disch := omega) only [nrm, lk_nrm, dc_nrm, mk_nrm, mf_nrm, ti_nrm, ls_nrm, mp_nrm, nb_nrm, hset, pick_and, pick_or, ↓reduceIte, Nat.reduceAdd, wI64, wI32, wI16, wI8, wU8, List.length_map, Int.toNat_natCast, i64s_set, tn1, natadd, natadd1, natsub, natsub1, natmul2, natmul2', wU64, hfd]; rfl)
      refine g1 ?_ (hst := by simp +decide (disch := omega) only [nrm, lk_nrm, dc_nrm, mk_nrm, mf_nrm, ti_nrm, ls_nrm, mp_nrm, nb_nrm, hset, pick_and, pick_or, ↓reduceIte, Nat.reduceAdd, wI64, wI32, wI16, wI8, wU8, List.length_map, Int.toNat_natCast, i64s_set, tn1, natadd, natadd1, natsub, natsub1, natmul2, natmul2', wU64, hfd]; rfl)
      refine g1 ?_ (hst := by simp +decide (disch := omega) only [nrm, lk_nrm, dc_nrm, mk_nrm, mf_nrm, ti_nrm, ls_nrm, mp_nrm, nb_nrm, hset, pick_and, pick_or, ↓reduceIte, Nat.reduceAdd, wI64, wI32, wI16, wI8, wU8, List.length_map, Int.toNat_natCast, i64s_set, tn1, natadd, natadd1, natsub, natsub1, natmul2, natmul2', wU64, hfd]; rfl)
      first | exact ⟨_, _, by omega, weak_sl (sub_cons rfl (sub_cons rfl (sub_cons rfl (sub_cons rfl (sub_cons rfl (sub_nil)))))), i - j, j, swR ys (m - i) m j, by omega, by omega, by omega, by omega, (by rw [swR_len]; exact hyl), (by rw [rot_left hgt him (by omega)]; exact hrot), rfl, rfl⟩ | exact ⟨_, _, by omega, weak_sl (sub_cons rfl (sub_cons rfl (sub_cons rfl (sub_cons rfl (sub_cons rfl (sub_nil)))))), i, j - i, swR ys (m - i) (m + j - i) i, by omega, by omega, by omega, by omega, (by rw [swR_len]; exact hyl), (by rw [rot_right hgt him (by omega)]; exact hrot), rfl, rfl⟩
    · skip
      have hgt : i < j := by have h := hc1; simp only [decide_eq_false_iff_not] at h; omega
      refine awp_seq ?_
      refine r1 T0_ok hP hm hN ?_
      refine g1 ?_ (hst := by simp +decide (disch := omega) only [nrm, lk_nrm, dc_nrm, mk_nrm, mf_nrm, ti_nrm, ls_nrm, mp_nrm, nb_nrm, hset, pick_and, pick_or, ↓reduceIte, Nat.reduceAdd, wI64, wI32, wI16, wI8, wU8, List.length_map, Int.toNat_natCast, i64s_set, tn1, natadd, natadd1, natsub, natsub1, natmul2, natmul2', wU64, hfd]; rfl)
      refine g1 ?_ (hst := by simp +decide (disch := omega) only [nrm, lk_nrm, dc_nrm, mk_nrm, mf_nrm, ti_nrm, ls_nrm, mp_nrm, nb_nrm, hset, pick_and, pick_or, ↓reduceIte, Nat.reduceAdd, wI64, wI32, wI16, wI8, wU8, List.length_map, Int.toNat_natCast, i64s_set, tn1, natadd, natadd1, natsub, natsub1, natmul2, natmul2', wU64, hfd]; rfl)
      refine g1 ?_ (hst := by simp +decide (disch := omega) only [nrm, lk_nrm, dc_nrm, mk_nrm, mf_nrm, ti_nrm, ls_nrm, mp_nrm, nb_nrm, hset, pick_and, pick_or, ↓reduceIte, Nat.reduceAdd, wI64, wI32, wI16, wI8, wU8, List.length_map, Int.toNat_natCast, i64s_set, tn1, natadd, natadd1, natsub, natsub1, natmul2, natmul2', wU64, hfd]; rfl)
      refine g1 ?_ (hst := by simp +decide (disch := omega) only [nrm, lk_nrm, dc_nrm, mk_nrm, mf_nrm, ti_nrm, ls_nrm, mp_nrm, nb_nrm, hset, pick_and, pick_or, ↓reduceIte, Nat.reduceAdd, wI64, wI32, wI16, wI8, wU8, List.length_map, Int.toNat_natCast, i64s_set, tn1, natadd, natadd1, natsub, natsub1, natmul2, natmul2', wU64, hfd]; rfl)
      refine g1 ?_ (hst := by simp +decide (disch := omega) only [nrm, lk_nrm, dc_nrm, mk_nrm, mf_nrm, ti_nrm, ls_nrm, mp_nrm, nb_nrm, hset, pick_and, pick_or, ↓reduceIte, Nat.reduceAdd, wI64, wI32, wI16, wI8, wU8, List.length_map, Int.toNat_natCast, i64s_set, tn1, natadd, natadd1, natsub, natsub1, natmul2, natmul2', wU64, hfd]; rfl)
      refine g1 ?_ (hst := by simp +decide (disch := omega) only [nrm, lk_nrm, dc_nrm, mk_nrm, mf_nrm, ti_nrm, ls_nrm, mp_nrm, nb_nrm, hset, pick_and, pick_or, ↓reduceIte, Nat.reduceAdd, wI64, wI32, wI16, wI8, wU8, List.length_map, Int.toNat_natCast, i64s_set, tn1, natadd, natadd1, natsub, natsub1, natmul2, natmul2', wU64, hfd]; rfl)
      refine g1 ?_ (hst := by simp +decide (disch := omega) only [nrm, lk_nrm, dc_nrm, mk_nrm, mf_nrm, ti_nrm, ls_nrm, mp_nrm, nb_nrm, hset, pick_and, pick_or, ↓reduceIte, Nat.reduceAdd, wI64, wI32, wI16, wI8, wU8, List.length_map, Int.toNat_natCast, i64s_set, tn1, natadd, natadd1, natsub, natsub1, natmul2, natmul2', wU64, hfd]; rfl)
      refine g1 ?_ (hst := by simp +decide (disch := omega) only [nrm, lk_nrm, dc_nrm, mk_nrm, mf_nrm, ti_nrm, ls_nrm, mp_nrm, nb_nrm, hset, pick_and, pick_or, ↓reduceIte, Nat.reduceAdd, wI64, wI32, wI16, wI8, wU8, List.length_map, Int.toNat_natCast, i64s_set, tn1, natadd, natadd1, natsub, natsub1, natmul2, natmul2', wU64, hfd]; rfl)
      refine g1 ?_ (hst := by simp +decide (disch := omega) only [nrm, lk_nrm, dc_nrm, mk_nrm, mf_nrm, ti_nrm, ls_nrm, mp_nrm, nb_nrm, hset, pick_and, pick_or, ↓reduceIte, Nat.reduceAdd, wI64, wI32, wI16, wI8, wU8, List.length_map, Int.toNat_natCast, i64s_set, tn1, natadd, natadd1, natsub, natsub1, natmul2, natmul2', wU64, hfd]; rfl)
      refine g1 ?_ (hst := by simp +decide (disch := omega) only [nrm, lk_nrm, dc_nrm, mk_nrm, mf_nrm, ti_nrm, ls_nrm, mp_nrm, nb_nrm, hset, pick_and, pick_or, ↓reduceIte, Nat.reduceAdd, wI64, wI32, wI16, wI8, wU8, List.length_map, Int.toNat_natCast, i64s_set, tn1, natadd, natadd1, natsub, natsub1, natmul2, natmul2', wU64, hfd]; rfl)
      refine g1 ?_ (hst := by simp +decide (disch := omega) only [nrm, lk_nrm, dc_nrm, mk_nrm, mf_nrm, ti_nrm, ls_nrm, mp_nrm, nb_nrm, hset, pick_and, pick_or, ↓reduceIte, Nat.reduceAdd, wI64, wI32, wI16, wI8, wU8, List.length_map, Int.toNat_natCast, i64s_set, tn1, natadd, natadd1, natsub, natsub1, natmul2, natmul2', wU64, hfd]; rfl)
      refine gc1 ?_ (call1 ok_slices_swapRangeCmpFunc_int (ys, m - i, m + j - i, i, fn) [0] (hargs := (by (try dsimp only); exact args_cons (arga_own rfl) (args_cons arga_val (args_cons arga_val (args_cons arga_val (args_cons (arga_does hdo) args_nil)))))) (hpre := by (try dsimp only); exact ⟨by omega, by omega, by omega⟩)) (hst := by simp +decide (disch := omega) only [nrm, lk_nrm, dc_nrm, mk_nrm, mf_nrm, ti_nrm, ls_nrm, mp_nrm, nb_nrm, hset, pick_and, pick_or, ↓reduceIte, Nat.reduceAdd, wI64, wI32, wI16, wI8, wU8, List.length_map, Int.toNat_natCast, i64s_set, tn1, natadd, natadd1, natsub, natsub1, natmul2, natmul2', wU64, hfd]; rfl)
      refine r1 T0_ok hP hm hN ?_
      refine g1 ?_ (hst := by simp +decide (disch := omega) only [nrm, lk_nrm, dc_nrm, mk_nrm, mf_nrm, ti_nrm, ls_nrm, mp_nrm, nb_nrm, hset, pick_and, pick_or, ↓reduceIte, Nat.reduceAdd, wI64, wI32, wI16, wI8, wU8, List.length_map, Int.toNat_natCast, i64s_set, tn1, natadd, natadd1, natsub, natsub1, natmul2, natmul2', wU64, hfd]; rfl)
      refine g1 ?_ (hst := by simp +decide (disch := omega) only [nrm, lk_nrm, dc_nrm, mk_nrm, mf_nrm, ti_nrm, ls_nrm, mp_nrm, nb_nrm, hset, pick_and, pick_or, ↓reduceIte, Nat.reduceAdd, wI64, wI32, wI16, wI8, wU8, List.length_map, Int.toNat_natCast, i64s_set, tn1, natadd, natadd1, natsub, natsub1, natmul2, natmul2', wU64, hfd]; rfl)
      refine g1 ?_ (hst := by simp +decide (disch := omega) only [nrm, lk_nrm, dc_nrm, mk_nrm, mf_nrm, ti_nrm, ls_nrm, mp_nrm, nb_nrm, hset, pick_and, pick_or, ↓reduceIte, Nat.reduceAdd, wI64, wI32, wI16, wI8, wU8, List.length_map, Int.toNat_natCast, i64s_set, tn1, natadd, natadd1, natsub, natsub1, natmul2, natmul2', wU64, hfd]; rfl)
      refine g1 ?_ (hst := by simp +decide (disch := omega) only [nrm, lk_nrm, dc_nrm, mk_nrm, mf_nrm, ti_nrm, ls_nrm, mp_nrm, nb_nrm, hset, pick_and, pick_or, ↓reduceIte, Nat.reduceAdd, wI64, wI32, wI16, wI8, wU8, List.length_map, Int.toNat_natCast, i64s_set, tn1, natadd, natadd1, natsub, natsub1, natmul2, natmul2', wU64, hfd]; rfl)
      first | exact ⟨_, _, by omega, weak_sl (sub_cons rfl (sub_cons rfl (sub_cons rfl (sub_cons rfl (sub_cons rfl (sub_nil)))))), i - j, j, swR ys (m - i) m j, by omega, by omega, by omega, by omega, (by rw [swR_len]; exact hyl), (by rw [rot_left hgt him (by omega)]; exact hrot), rfl, rfl⟩ | exact ⟨_, _, by omega, weak_sl (sub_cons rfl (sub_cons rfl (sub_cons rfl (sub_cons rfl (sub_cons rfl (sub_nil)))))), i, j - i, swR ys (m - i) (m + j - i) i, by omega, by omega, by omega, by omega, (by rw [swR_len]; exact hyl), (by rw [rot_right hgt him (by omega)]; exact hrot), rfl, rfl⟩
  · skip
    have heq : i = j := by have h := hc0; simp only [bne_eq_false_iff_eq] at h; omega
    subst heq
    have hfin : rotL xs a m b = swR ys (m - i) m i := by rw [rot_same (xs := ys) him (by omega)]; exact hrot.symm
    refine awp_exit ?_
    repeat refine thenA_exit ?_
    refine blockA_hit ?_
    refine r1 T0_ok hP hm hN ?_
    refine g1 ?_ (hst := by simp +decide (disch := omega) only [nrm, lk_nrm, dc_nrm, mk_nrm, mf_nrm, ti_nrm, ls_nrm, mp_nrm, nb_nrm, hset, pick_and, pick_or, ↓reduceIte, Nat.reduceAdd, wI64, wI32, wI16, wI8, wU8, List.length_map, Int.toNat_natCast, i64s_set, tn1, natadd, natadd1, natsub, natsub1, natmul2, natmul2', wU64, hfd]; rfl)
    refine g1 ?_ (hst := by simp +decide (disch := omega) only [nrm, lk_nrm, dc_nrm, mk_nrm, mf_nrm, ti_nrm, ls_nrm, mp_nrm, nb_nrm, hset, pick_and, pick_or, ↓reduceIte, Nat.reduceAdd, wI64, wI32, wI16, wI8, wU8, List.length_map, Int.toNat_natCast, i64s_set, tn1, natadd, natadd1, natsub, natsub1, natmul2, natmul2', wU64, hfd]; rfl)
    refine g1 ?_ (hst := by simp +decide (disch := omega) only [nrm, lk_nrm, dc_nrm, mk_nrm, mf_nrm, ti_nrm, ls_nrm, mp_nrm, nb_nrm, hset, pick_and, pick_or, ↓reduceIte, Nat.reduceAdd, wI64, wI32, wI16, wI8, wU8, List.length_map, Int.toNat_natCast, i64s_set, tn1, natadd, natadd1, natsub, natsub1, natmul2, natmul2', wU64, hfd]; rfl)
    refine g1 ?_ (hst := by simp +decide (disch := omega) only [nrm, lk_nrm, dc_nrm, mk_nrm, mf_nrm, ti_nrm, ls_nrm, mp_nrm, nb_nrm, hset, pick_and, pick_or, ↓reduceIte, Nat.reduceAdd, wI64, wI32, wI16, wI8, wU8, List.length_map, Int.toNat_natCast, i64s_set, tn1, natadd, natadd1, natsub, natsub1, natmul2, natmul2', wU64, hfd]; rfl)
    refine g1 ?_ (hst := by simp +decide (disch := omega) only [nrm, lk_nrm, dc_nrm, mk_nrm, mf_nrm, ti_nrm, ls_nrm, mp_nrm, nb_nrm, hset, pick_and, pick_or, ↓reduceIte, Nat.reduceAdd, wI64, wI32, wI16, wI8, wU8, List.length_map, Int.toNat_natCast, i64s_set, tn1, natadd, natadd1, natsub, natsub1, natmul2, natmul2', wU64, hfd]; rfl)
    refine g1 ?_ (hst := by simp +decide (disch := omega) only [nrm, lk_nrm, dc_nrm, mk_nrm, mf_nrm, ti_nrm, ls_nrm, mp_nrm, nb_nrm, hset, pick_and, pick_or, ↓reduceIte, Nat.reduceAdd, wI64, wI32, wI16, wI8, wU8, List.length_map, Int.toNat_natCast, i64s_set, tn1, natadd, natadd1, natsub, natsub1, natmul2, natmul2', wU64, hfd]; rfl)
    refine g1 ?_ (hst := by simp +decide (disch := omega) only [nrm, lk_nrm, dc_nrm, mk_nrm, mf_nrm, ti_nrm, ls_nrm, mp_nrm, nb_nrm, hset, pick_and, pick_or, ↓reduceIte, Nat.reduceAdd, wI64, wI32, wI16, wI8, wU8, List.length_map, Int.toNat_natCast, i64s_set, tn1, natadd, natadd1, natsub, natsub1, natmul2, natmul2', wU64, hfd]; rfl)
    refine gc1 ?_ (call1 ok_slices_swapRangeCmpFunc_int (ys, m - i, m, i, fn) [0] (hargs := (by (try dsimp only); exact args_cons (arga_own rfl) (args_cons arga_val (args_cons arga_val (args_cons arga_val (args_cons (arga_does hdo) args_nil)))))) (hpre := by (try dsimp only); exact ⟨by omega, by omega, by omega⟩)) (hst := by simp +decide (disch := omega) only [nrm, lk_nrm, dc_nrm, mk_nrm, mf_nrm, ti_nrm, ls_nrm, mp_nrm, nb_nrm, hset, pick_and, pick_or, ↓reduceIte, Nat.reduceAdd, wI64, wI32, wI16, wI8, wU8, List.length_map, Int.toNat_natCast, i64s_set, tn1, natadd, natadd1, natsub, natsub1, natmul2, natmul2', wU64, hfd]; rfl)
    refine fin_mk [] rfl rfl ?_ (by simp only [hfin]; exact objs_cons rfl rfl rfl rfl rfl (.inl rfl) objs_nil) (by decide)
    rfl

structure InsP (a b : Nat) (xs : List Int) : Prop where
  ab : a ≤ b
  bl : b ≤ xs.length
  asc : ∀ p q, a ≤ p → p < q → q < b → xs.getD p 0 < xs.getD q 0

noncomputable abbrev s_slices_insertionSortCmpFunc_int : Spec (List Int × Nat × Nat × D × (Int → Int → Int) × Int) where
  args := fun x => [.own 0, .val (.int .i64 ((x.2.1 : Nat) : Int)), .val (.int .i64 ((x.2.2.1 : Nat) : Int)), x.2.2.2.1]
  pre := fun x => InsP x.2.1 x.2.2.1 x.1 ∧ CmpOk x.2.2.2.2.1 x.2.2.2.2.2 x.2.2.2.1 ∧ Rng x.2.2.2.2.2 x.1 ∧ x.1.length ≤ 1048576
  obs := fun x => [⟨3, 1, false, i64s x.1⟩]
  out := fun x => [⟨3, 1, false, i64s (srt x.2.2.2.2.1 x.2.1 x.2.2.1 x.1)⟩]
  res := fun x => .tup []

set_option maxRecDepth 20000 in
set_option maxHeartbeats 8000000 in
theorem ok_slices_insertionSortCmpFunc_int : FnOk Pr 74 s_slices_insertionSortCmpFunc_int := by
  refine fn_ok 4 1 T0_ok Go.Proofs.Try.func74 rfl (enters_of Go.Proofs.Try.func74 rfl rfl) (fun _ => rfl) (fun _ => rfl) (fun _ => rfl) ?_
  rintro ⟨xs, a, b, fn, c, N⟩ ⟨hI, hC, hR, hl⟩ C hP hN hm hG
  change awp C _ _ ⟨[(0, .own 0), (1, .val (.int .i64 ((a : Nat) : Int))), (2, .val (.int .i64 ((b : Nat) : Int))), (3, fn)], [(0, ⟨3, 1, false, i64s xs⟩)], 1⟩
  simp only at hI hC hR hl
  have hab := hI.ab
  have hbl := hI.bl
  refine awp_seq ?_
  refine r1 T0_ok hP hm hN ?_
  refine g1 ?_ (hst := by simp +decide (disch := omega) only [nrm, lk_nrm, dc_nrm, mk_nrm, mf_nrm, ti_nrm, ls_nrm, mp_nrm, nb_nrm, hset, pick_and, pick_or, ↓reduceIte, Nat.reduceAdd, wI64, wI32, wI16, wI8, wU8, List.length_map, Int.toNat_natCast, i64s_set, tn1, natadd, natadd1, natsub, natsub1, natmul2, natmul2', wU64, hfd]; rfl)
  refine g1 ?_ (hst := by simp +decide (disch := omega) only [nrm, lk_nrm, dc_nrm, mk_nrm, mf_nrm, ti_nrm, ls_nrm, mp_nrm, nb_nrm, hset, pick_and, pick_or, ↓reduceIte, Nat.reduceAdd, wI64, wI32, wI16, wI8, wU8, List.length_map, Int.toNat_natCast, i64s_set, tn1, natadd, natadd1, natsub, natsub1, natmul2, natmul2', wU64, hfd]; rfl)
  refine g1 ?_ (hst := by simp +decide (disch := omega) only [nrm, lk_nrm, dc_nrm, mk_nrm, mf_nrm, ti_nrm, ls_nrm, mp_nrm, nb_nrm, hset, pick_and, pick_or, ↓reduceIte, Nat.reduceAdd, wI64, wI32, wI16, wI8, wU8, List.length_map, Int.toNat_natCast, i64s_set, tn1, natadd, natadd1, natsub, natsub1, natmul2, natmul2', wU64, hfd]; rfl)
  refine awp_block ?_
  refine awp_loop (fun n st => ∃ (i : Nat) (ys : List Int), a + 1 ≤ i ∧ (i ≤ b ∨ i = a + 1) ∧ (i = a + 1 → ys = xs) ∧ SegP a i xs ys ∧ Sd c a i ys ∧ n = b - i ∧ st = ⟨[(8, .val (.int .i64 ((i : Nat) : Int))), (0, .own 0), (1, .val (.int .i64 ((a : Nat) : Int))), (2, .val (.int .i64 ((b : Nat) : Int))), (3, fn)], [(0, ⟨3, 1, false, i64s ys⟩)], 1⟩) (b - (a + 1)) ⟨_, weak_sl (sub_cons rfl (sub_cons rfl (sub_cons rfl (sub_cons rfl (sub_cons rfl (sub_nil)))))), a + 1, xs, Nat.le_refl _, .inr rfl, fun _ => rfl, .rfl', fun i j a1 a2 a3 => by omega, rfl, rfl⟩ ?_
  rintro n st ⟨i, ys, hi1, hi2, hi3, hsg, hsd, hn, rfl⟩
  have hyl := hsg.len
  refine awp_seq ?_
  refine awp_seq ?_
  refine r1 T0_ok hP hm hN ?_
  refine g1 ?_ (hst := by simp +decide (disch := omega) only [nrm, lk_nrm, dc_nrm, mk_nrm, mf_nrm, ti_nrm, ls_nrm, mp_nrm, nb_nrm, hset, pick_and, pick_or, ↓reduceIte, Nat.reduceAdd, wI64, wI32, wI16, wI8, wU8, List.length_map, Int.toNat_natCast, i64s_set, tn1, natadd, natadd1, natsub, natsub1, natmul2, natmul2', wU64, hfd]; rfl)
  refine g1 ?_ (hst := by simp +decide (disch := omega) only [nrm, lk_nrm, dc_nrm, mk_nrm, mf_nrm, ti_nrm, ls_nrm, mp_nrm, nb_nrm, hset, pick_and, pick_or, ↓reduceIte, Nat.reduceAdd, wI64, wI32, wI16, wI8, wU8, List.length_map, Int.toNat_natCast, i64s_set, tn1, natadd, natadd1, natsub, natsub1, natmul2, natmul2', wU64, hfd]; rfl)
  refine g1 ?_ (hst := by simp +decide (disch := omega) only [nrm, lk_nrm, dc_nrm, mk_nrm, mf_nrm, ti_nrm, ls_nrm, mp_nrm, nb_nrm, hset, pick_and, pick_or, ↓reduceIte, Nat.reduceAdd, wI64, wI32, wI16, wI8, wU8, List.length_map, Int.toNat_natCast, i64s_set, tn1, natadd, natadd1, natsub, natsub1, natmul2, natmul2', wU64, hfd]; rfl)
  refine awp_cond rfl (fun hc0 => ?_) (fun hc0 => ?_)
  · skip
    have hlti : i < b := by simpa using hc0
    refine awp_skip ?_
    refine awp_seq ?_
    refine awp_block ?_
    refine awp_seq ?_
    refine r1 T0_ok hP hm hN ?_
    refine g1 ?_ (hst := by simp +decide (disch := omega) only [nrm, lk_nrm, dc_nrm, mk_nrm, mf_nrm, ti_nrm, ls_nrm, mp_nrm, nb_nrm, hset, pick_and, pick_or, ↓reduceIte, Nat.reduceAdd, wI64, wI32, wI16, wI8, wU8, List.length_map, Int.toNat_natCast, i64s_set, tn1, natadd, natadd1, natsub, natsub1, natmul2, natmul2', wU64, hfd]; rfl)
    refine g1 ?_ (hst := by simp +decide (disch := omega) only [nrm, lk_nrm, dc_nrm, mk_nrm, mf_nrm, ti_nrm, ls_nrm, mp_nrm, nb_nrm, hset, pick_and, pick_or, ↓reduceIte, Nat.reduceAdd, wI64, wI32, wI16, wI8, wU8, List.length_map, Int.toNat_natCast, i64s_set, tn1, natadd, natadd1, natsub, natsub1, natmul2, natmul2', wU64, hfd]; rfl)
    refine awp_block ?_
    refine awp_loop (fun n st => ∃ (j : Nat) (zs : List Int), a ≤ j ∧ j ≤ i ∧ BubL ys zs i j ∧ zs.Perm ys ∧ (∀ p, j ≤ p → p < i → ltC c (ys.getD i 0) (ys.getD p 0)) ∧ n = j ∧ st = ⟨[(9, .val (.int .i64 ((j : Nat) : Int))), (8, .val (.int .i64 ((i : Nat) : Int))), (0, .own 0), (1, .val (.int .i64 ((a : Nat) : Int))), (2, .val (.int .i64 ((b : Nat) : Int))), (3, fn)], [(0, ⟨3, 1, false, i64s zs⟩)], 1⟩) i ⟨_, weak_sl (sub_cons rfl (sub_cons rfl (sub_cons rfl (sub_cons rfl (sub_cons rfl (sub_cons rfl (sub_nil))))))), i, ys, by omega, Nat.le_refl _, bubL_0 ys i, .refl _, fun p h1 h2 => by omega, rfl, rfl⟩ ?_
    rintro n st ⟨j, zs, haj, hji, hz, hzp, hgt, hn2, rfl⟩
    have hzl := hzp.length_eq
    have hrz : Rng N zs := (hR.perm hsg.perm).perm hzp
    have hzj : zs.getD j 0 = ys.getD i 0 := by rw [hz j, if_pos rfl]
    have hzj1 : zs.getD (j - 1) 0 = ys.getD (j - 1) 0 ∨ j = 0 := by
      rcases Nat.eq_zero_or_pos j with h | h
      · exact .inr h
      · left; rw [hz (j - 1), if_neg (by omega), if_neg (by omega)]
    have hasi : ∀ p, a ≤ p → p < i → ys.getD p 0 < ys.getD i 0 := fun p h1 h2 => by
      obtain ⟨q, q1, q2, q3⟩ := hsg.mem (by omega) (by omega) h1 h2
      rw [q3, hsg.out i (.inr (Nat.le_refl _))]
      exact hI.asc q i q1 q2 hlti
    refine awp_seq ?_
    refine awp_seq ?_
    refine awp_draw T0_ok hP hm hN Pr_mix [0, 1, 2, 3, 4, 5, 6, 7, 8, 9, 10, 11] [14] _ rfl (by rfl) ?_
    refine d1 T0_ok ?_ (hdn := by simp +decide (disch := omega) only [nrm, lk_nrm, dc_nrm, mk_nrm, mf_nrm, ti_nrm, ls_nrm, mp_nrm, nb_nrm, hset, pick_and, pick_or, ↓reduceIte, Nat.reduceAdd, wI64, wI32, wI16, wI8, wU8, List.length_map, Int.toNat_natCast, i64s_set, tn1, natadd, natadd1, natsub, natsub1, natmul2, natmul2', wU64, hfd, mask_nrm]; rfl) (hsl := by simp +decide (disch := omega) only [nrm, lk_nrm, dc_nrm, mk_nrm, mf_nrm, ti_nrm, ls_nrm, mp_nrm, nb_nrm, hset, pick_and, pick_or, ↓reduceIte, Nat.reduceAdd, wI64, wI32, wI16, wI8, wU8, List.length_map, Int.toNat_natCast, i64s_set, tn1, natadd, natadd1, natsub, natsub1, natmul2, natmul2', wU64, hfd, mask_nrm]; rfl)
    refine d1 T0_ok ?_ (hdn := by simp +decide (disch := omega) only [nrm, lk_nrm, dc_nrm, mk_nrm, mf_nrm, ti_nrm, ls_nrm, mp_nrm, nb_nrm, hset, pick_and, pick_or, ↓reduceIte, Nat.reduceAdd, wI64, wI32, wI16, wI8, wU8, List.length_map, Int.toNat_natCast, i64s_set, tn1, natadd, natadd1, natsub, natsub1, natmul2, natmul2', wU64, hfd, mask_nrm]; rfl) (hsl := by simp +decide (disch := omega) only [nrm, lk_nrm, dc_nrm, mk_nrm, mf_nrm, ti_nrm, ls_nrm, mp_nrm, nb_nrm, hset, pick_and, pick_or, ↓reduceIte, Nat.reduceAdd, wI64, wI32, wI16, wI8, wU8, List.length_map, Int.toNat_natCast, i64s_set, tn1, natadd, natadd1, natsub, natsub1, natmul2, natmul2', wU64, hfd, mask_nrm]; rfl)
    refine d1 T0_ok ?_ (hdn := by simp +decide (disch := omega) only [nrm, lk_nrm, dc_nrm, mk_nrm, mf_nrm, ti_nrm, ls_nrm, mp_nrm, nb_nrm, hset, pick_and, pick_or, ↓reduceIte, Nat.reduceAdd, wI64, wI32, wI16, wI8, wU8, List.length_map, Int.toNat_natCast, i64s_set, tn1, natadd, natadd1, natsub, natsub1, natmul2, natmul2', wU64, hfd, mask_nrm]; rfl) (hsl := by simp +decide (disch := omega) only [nrm, lk_nrm, dc_nrm, mk_nrm, mf_nrm, ti_nrm, ls_nrm, mp_nrm, nb_nrm, hset, pick_and, pick_or, ↓reduceIte, Nat.reduceAdd, wI64, wI32, wI16, wI8, wU8, List.length_map, Int.toNat_natCast, i64s_set, tn1, natadd, natadd1, natsub, natsub1, natmul2, natmul2', wU64, hfd, mask_nrm]; rfl)
    refine d1 T0_ok ?_ (hdn := by simp +decide (disch := omega) only [nrm, lk_nrm, dc_nrm, mk_nrm, mf_nrm, ti_nrm, ls_nrm, mp_nrm, nb_nrm, hset, pick_and, pick_or, ↓reduceIte, Nat.reduceAdd, wI64, wI32, wI16, wI8, wU8, List.length_map, Int.toNat_natCast, i64s_set, tn1, natadd, natadd1, natsub, natsub1, natmul2, natmul2', wU64, hfd, mask_nrm]; rfl) (hsl := by simp +decide (disch := omega) only [nrm, lk_nrm, dc_nrm, mk_nrm, mf_nrm, ti_nrm, ls_nrm, mp_nrm, nb_nrm, hset, pick_and, pick_or, ↓reduceIte, Nat.reduceAdd, wI64, wI32, wI16, wI8, wU8, List.length_map, Int.toNat_natCast, i64s_set, tn1, natadd, natadd1, natsub, natsub1, natmul2, natmul2', wU64, hfd, mask_nrm]; rfl)
    refine dg1 T0_ok ?_ (hdn := by simp +decide (disch := omega) only [nrm, lk_nrm, dc_nrm, mk_nrm, mf_nrm, ti_nrm, ls_nrm, mp_nrm, nb_nrm, hset, pick_and, pick_or, ↓reduceIte, Nat.reduceAdd, wI64, wI32, wI16, wI8, wU8, List.length_map, Int.toNat_natCast, i64s_set, tn1, natadd, natadd1, natsub, natsub1, natmul2, natmul2', wU64, hfd, mask_nrm]; rfl) (hsl := by simp +decide (disch := omega) only [nrm, lk_nrm, dc_nrm, mk_nrm, mf_nrm, ti_nrm, ls_nrm, mp_nrm, nb_nrm, hset, pick_and, pick_or, ↓reduceIte, Nat.reduceAdd, wI64, wI32, wI16, wI8, wU8, List.length_map, Int.toNat_natCast, i64s_set, tn1, natadd, natadd1, natsub, natsub1, natmul2, natmul2', wU64, hfd, mask_nrm]; rfl)
    refine dg1 T0_ok ?_ (hdn := by simp +decide (disch := omega) only [nrm, lk_nrm, dc_nrm, mk_nrm, mf_nrm, ti_nrm, ls_nrm, mp_nrm, nb_nrm, hset, pick_and, pick_or, ↓reduceIte, Nat.reduceAdd, wI64, wI32, wI16, wI8, wU8, List.length_map, Int.toNat_natCast, i64s_set, tn1, natadd, natadd1, natsub, natsub1, natmul2, natmul2', wU64, hfd, mask_nrm]; rfl) (hsl := by simp +decide (disch := omega) only [nrm, lk_nrm, dc_nrm, mk_nrm, mf_nrm, ti_nrm, ls_nrm, mp_nrm, nb_nrm, hset, pick_and, pick_or, ↓reduceIte, Nat.reduceAdd, wI64, wI32, wI16, wI8, wU8, List.length_map, Int.toNat_natCast, i64s_set, tn1, natadd, natadd1, natsub, natsub1, natmul2, natmul2', wU64, hfd, mask_nrm]; rfl)
    refine dg1 T0_ok ?_ (hdn := by simp +decide (disch := omega) only [nrm, lk_nrm, dc_nrm, mk_nrm, mf_nrm, ti_nrm, ls_nrm, mp_nrm, nb_nrm, hset, pick_and, pick_or, ↓reduceIte, Nat.reduceAdd, wI64, wI32, wI16, wI8, wU8, List.length_map, Int.toNat_natCast, i64s_set, tn1, natadd, natadd1, natsub, natsub1, natmul2, natmul2', wU64, hfd, mask_nrm]; rfl) (hsl := by simp +decide (disch := omega) only [nrm, lk_nrm, dc_nrm, mk_nrm, mf_nrm, ti_nrm, ls_nrm, mp_nrm, nb_nrm, hset, pick_and, pick_or, ↓reduceIte, Nat.reduceAdd, wI64, wI32, wI16, wI8, wU8, List.length_map, Int.toNat_natCast, i64s_set, tn1, natadd, natadd1, natsub, natsub1, natmul2, natmul2', wU64, hfd, mask_nrm]; rfl)
    refine dg1 T0_ok ?_ (hs := by intro hb; simp +decide only [hb, gd_tt, gd_ff, beq_self_eq_true, Bool.true_and, beq_true]; exact ⟨_, by first | rfl | exact astep_load_r (by rfl) (by rfl) (by exact i64s_get _ _ (by omega)) (by rfl) | exact astep_load_r (by rfl) (by rfl) (by first | exact bks_get _ _ (by omega) | exact pls_get _ _ (by omega) | exact ints_get _ _ _ (by omega) | exact boolD_get _ _ (by omega) | exact i64ss_get _ _ (by omega) | assumption) (by rfl) | exact astep_store_p (by rfl) (by rfl) (by rfl) (by rfl) (by exact i64s_get _ _ (by omega)), by exact ⟨rfl, by omega, by (try simp only [List.length_map]); omega⟩⟩) (hdn := by simp +decide (disch := omega) only [nrm, lk_nrm, dc_nrm, mk_nrm, mf_nrm, ti_nrm, ls_nrm, mp_nrm, nb_nrm, hset, pick_and, pick_or, ↓reduceIte, Nat.reduceAdd, wI64, wI32, wI16, wI8, wU8, List.length_map, Int.toNat_natCast, i64s_set, tn1, natadd, natadd1, natsub, natsub1, natmul2, natmul2', wU64, hfd, mask_nrm]; rfl) (hsl := by simp +decide (disch := omega) only [nrm, lk_nrm, dc_nrm, mk_nrm, mf_nrm, ti_nrm, ls_nrm, mp_nrm, nb_nrm, hset, pick_and, pick_or, ↓reduceIte, Nat.reduceAdd, wI64, wI32, wI16, wI8, wU8, List.length_map, Int.toNat_natCast, i64s_set, tn1, natadd, natadd1, natsub, natsub1, natmul2, natmul2', wU64, hfd, mask_nrm]; rfl)
    refine dg1 T0_ok ?_ (hdn := by simp +decide (disch := omega) only [nrm, lk_nrm, dc_nrm, mk_nrm, mf_nrm, ti_nrm, ls_nrm, mp_nrm, nb_nrm, hset, pick_and, pick_or, ↓reduceIte, Nat.reduceAdd, wI64, wI32, wI16, wI8, wU8, List.length_map, Int.toNat_natCast, i64s_set, tn1, natadd, natadd1, natsub, natsub1, natmul2, natmul2', wU64, hfd, mask_nrm]; rfl) (hsl := by simp +decide (disch := omega) only [nrm, lk_nrm, dc_nrm, mk_nrm, mf_nrm, ti_nrm, ls_nrm, mp_nrm, nb_nrm, hset, pick_and, pick_or, ↓reduceIte, Nat.reduceAdd, wI64, wI32, wI16, wI8, wU8, List.length_map, Int.toNat_natCast, i64s_set, tn1, natadd, natadd1, natsub, natsub1, natmul2, natmul2', wU64, hfd, mask_nrm]; rfl)
    refine dg1 T0_ok ?_ (hdn := by simp +decide (disch := omega) only [nrm, lk_nrm, dc_nrm, mk_nrm, mf_nrm, ti_nrm, ls_nrm, mp_nrm, nb_nrm, hset, pick_and, pick_or, ↓reduceIte, Nat.reduceAdd, wI64, wI32, wI16, wI8, wU8, List.length_map, Int.toNat_natCast, i64s_set, tn1, natadd, natadd1, natsub, natsub1, natmul2, natmul2', wU64, hfd, mask_nrm]; rfl) (hsl := by simp +decide (disch := omega) only [nrm, lk_nrm, dc_nrm, mk_nrm, mf_nrm, ti_nrm, ls_nrm, mp_nrm, nb_nrm, hset, pick_and, pick_or, ↓reduceIte, Nat.reduceAdd, wI64, wI32, wI16, wI8, wU8, List.length_map, Int.toNat_natCast, i64s_set, tn1, natadd, natadd1, natsub, natsub1, natmul2, natmul2', wU64, hfd, mask_nrm]; rfl)
    refine dg1 T0_ok ?_ (hdn := by simp +decide (disch := omega) only [nrm, lk_nrm, dc_nrm, mk_nrm, mf_nrm, ti_nrm, ls_nrm, mp_nrm, nb_nrm, hset, pick_and, pick_or, ↓reduceIte, Nat.reduceAdd, wI64, wI32, wI16, wI8, wU8, List.length_map, Int.toNat_natCast, i64s_set, tn1, natadd, natadd1, natsub, natsub1, natmul2, natmul2', wU64, hfd, mask_nrm]; rfl) (hsl := by simp +decide (disch := omega) only [nrm, lk_nrm, dc_nrm, mk_nrm, mf_nrm, ti_nrm, ls_nrm, mp_nrm, nb_nrm, hset, pick_and, pick_or, ↓reduceIte, Nat.reduceAdd, wI64, wI32, wI16, wI8, wU8, List.length_map, Int.toNat_natCast, i64s_set, tn1, natadd, natadd1, natsub, natsub1, natmul2, natmul2', wU64, hfd, mask_nrm]; rfl)
    refine dg1 T0_ok ?_ (hdn := by simp +decide (disch := omega) only [nrm, lk_nrm, dc_nrm, mk_nrm, mf_nrm, ti_nrm, ls_nrm, mp_nrm, nb_nrm, hset, pick_and, pick_or, ↓reduceIte, Nat.reduceAdd, wI64, wI32, wI16, wI8, wU8, List.length_map, Int.toNat_natCast, i64s_set, tn1, natadd, natadd1, natsub, natsub1, natmul2, natmul2', wU64, hfd, mask_nrm]; rfl) (hsl := by simp +decide (disch := omega) only [nrm, lk_nrm, dc_nrm, mk_nrm, mf_nrm, ti_nrm, ls_nrm, mp_nrm, nb_nrm, hset, pick_and, pick_or, ↓reduceIte, Nat.reduceAdd, wI64, wI32, wI16, wI8, wU8, List.length_map, Int.toNat_natCast, i64s_set, tn1, natadd, natadd1, natsub, natsub1, natmul2, natmul2', wU64, hfd, mask_nrm]; rfl)
    refine dg1 T0_ok ?_ (hs := by intro hb; simp +decide only [hb, gd_tt, gd_ff, beq_self_eq_true, Bool.true_and, beq_true]; exact ⟨_, by first | rfl | exact astep_load_r (by rfl) (by rfl) (by exact i64s_get _ _ (by omega)) (by rfl) | exact astep_load_r (by rfl) (by rfl) (by first | exact bks_get _ _ (by omega) | exact pls_get _ _ (by omega) | exact ints_get _ _ _ (by omega) | exact boolD_get _ _ (by omega) | exact i64ss_get _ _ (by omega) | assumption) (by rfl) | exact astep_store_p (by rfl) (by rfl) (by rfl) (by rfl) (by exact i64s_get _ _ (by omega)), by exact ⟨rfl, (by simp at hb; omega), by (try simp only [List.length_map]); omega⟩⟩) (hdn := by simp +decide (disch := omega) only [nrm, lk_nrm, dc_nrm, mk_nrm, mf_nrm, ti_nrm, ls_nrm, mp_nrm, nb_nrm, hset, pick_and, pick_or, ↓reduceIte, Nat.reduceAdd, wI64, wI32, wI16, wI8, wU8, List.length_map, Int.toNat_natCast, i64s_set, tn1, natadd, natadd1, natsub, natsub1, natmul2, natmul2', wU64, hfd, mask_nrm]; rfl) (hsl := by simp +decide (disch := omega) only [nrm, lk_nrm, dc_nrm, mk_nrm, mf_nrm, ti_nrm, ls_nrm, mp_nrm, nb_nrm, hset, pick_and, pick_or, ↓reduceIte, Nat.reduceAdd, wI64, wI32, wI16, wI8, wU8, List.length_map, Int.toNat_natCast, i64s_set, tn1, natadd, natadd1, natsub, natsub1, natmul2, natmul2', wU64, hfd, mask_nrm]; rfl)
    refine dg1 T0_ok ?_ (hdn := by simp +decide (disch := omega) only [nrm, lk_nrm, dc_nrm, mk_nrm, mf_nrm, ti_nrm, ls_nrm, mp_nrm, nb_nrm, hset, pick_and, pick_or, ↓reduceIte, Nat.reduceAdd, wI64, wI32, wI16, wI8, wU8, List.length_map, Int.toNat_natCast, i64s_set, tn1, natadd, natadd1, natsub, natsub1, natmul2, natmul2', wU64, hfd, mask_nrm]; rfl) (hsl := by simp +decide (disch := omega) only [nrm, lk_nrm, dc_nrm, mk_nrm, mf_nrm, ti_nrm, ls_nrm, mp_nrm, nb_nrm, hset, pick_and, pick_or, ↓reduceIte, Nat.reduceAdd, wI64, wI32, wI16, wI8, wU8, List.length_map, Int.toNat_natCast, i64s_set, tn1, natadd, natadd1, natsub, natsub1, natmul2, natmul2', wU64, hfd, mask_nrm]; rfl)
    refine dgp1 ?_ (hr := by intro hb; simp +decide only [hb, gd_tt, gd_ff, beq_self_eq_true, Bool.true_and, beq_true]; exact ⟨_, OpRel.does hC.does (zs.getD j 0, zs.getD (j - 1) 0) ⟨hrz.get (by omega), hrz.get (by omega)⟩ rfl rfl rfl rfl rfl rfl, rfl, rfl, rfl⟩) (hdn := by simp +decide (disch := omega) only [nrm, lk_nrm, dc_nrm, mk_nrm, mf_nrm, ti_nrm, ls_nrm, mp_nrm, nb_nrm, hset, pick_and, pick_or, ↓reduceIte, Nat.reduceAdd, wI64, wI32, wI16, wI8, wU8, List.length_map, Int.toNat_natCast, i64s_set, tn1, natadd, natadd1, natsub, natsub1, natmul2, natmul2', wU64, hfd, mask_nrm]; rfl) (hsl := by simp +decide (disch := omega) only [nrm, lk_nrm, dc_nrm, mk_nrm, mf_nrm, ti_nrm, ls_nrm, mp_nrm, nb_nrm, hset, pick_and, pick_or, ↓reduceIte, Nat.reduceAdd, wI64, wI32, wI16, wI8, wU8, List.length_map, Int.toNat_natCast, i64s_set, tn1, natadd, natadd1, natsub, natsub1, natmul2, natmul2', wU64, hfd, mask_nrm]; rfl)
    refine dg1 T0_ok ?_ (hdn := by simp +decide (disch := omega) only [nrm, lk_nrm, dc_nrm, mk_nrm, mf_nrm, ti_nrm, ls_nrm, mp_nrm, nb_nrm, hset, pick_and, pick_or, ↓reduceIte, Nat.reduceAdd, wI64, wI32, wI16, wI8, wU8, List.length_map, Int.toNat_natCast, i64s_set, tn1, natadd, natadd1, natsub, natsub1, natmul2, natmul2', wU64, hfd, mask_nrm]; rfl) (hsl := by simp +decide (disch := omega) only [nrm, lk_nrm, dc_nrm, mk_nrm, mf_nrm, ti_nrm, ls_nrm, mp_nrm, nb_nrm, hset, pick_and, pick_or, ↓reduceIte, Nat.reduceAdd, wI64, wI32, wI16, wI8, wU8, List.length_map, Int.toNat_natCast, i64s_set, tn1, natadd, natadd1, natsub, natsub1, natmul2, natmul2', wU64, hfd, mask_nrm]; rfl)
    refine d1 T0_ok ?_ (hdn := by simp +decide (disch := omega) only [nrm, lk_nrm, dc_nrm, mk_nrm, mf_nrm, ti_nrm, ls_nrm, mp_nrm, nb_nrm, hset, pick_and, pick_or, ↓reduceIte, Nat.reduceAdd, wI64, wI32, wI16, wI8, wU8, List.length_map, Int.toNat_natCast, i64s_set, tn1, natadd, natadd1, natsub, natsub1, natmul2, natmul2', wU64, hfd, mask_nrm]; rfl) (hsl := by simp +decide (disch := omega) only [nrm, lk_nrm, dc_nrm, mk_nrm, mf_nrm, ti_nrm, ls_nrm, mp_nrm, nb_nrm, hset, pick_and, pick_or, ↓reduceIte, Nat.reduceAdd, wI64, wI32, wI16, wI8, wU8, List.length_map, Int.toNat_natCast, i64s_set, tn1, natadd, natadd1, natsub, natsub1, natmul2, natmul2', wU64, hfd, mask_nrm]; rfl)
    refine dreg_nil ?_
    refine awp_cond rfl (fun hc1 => ?_) (fun hc1 => ?_)
    · skip
      simp only [Bool.and_eq_true, decide_eq_true_eq] at hc1
      have hjp : a < j := by omega
      have hcj : c (ys.getD i 0) (ys.getD (j - 1) 0) < 0 := by
        have h := hc1.2
        rw [hzj, hzj1.resolve_right (by omega)] at h
        exact h
      have hsw : swp zs j (j - 1) = (zs.set j (zs.getD (j - 1) 0)).set (j - 1) (zs.getD j 0) := rfl
      have hb2 : BubL ys (swp zs j (j - 1)) i (j - 1) := by
        obtain ⟨j', rfl⟩ : ∃ j', j = j' + 1 := ⟨j - 1, by omega⟩
        exact bubL_step hz hji (by omega)
      have hgt2 : ∀ p, j - 1 ≤ p → p < i → ltC c (ys.getD i 0) (ys.getD p 0) := fun p h1 h2 => by
        by_cases e : p = j - 1
        · rw [e]; exact .inl hcj
        · exact hgt p (by omega) h2
      refine awp_skip ?_
      refine awp_seq ?_
      refine awp_block ?_
      refine awp_draw T0_ok hP hm hN Pr_mix [] [15, 16, 17] _ rfl (by rfl) ?_
      refine d1 T0_ok ?_ (hdn := by simp +decide (disch := omega) only [nrm, lk_nrm, dc_nrm, mk_nrm, mf_nrm, ti_nrm, ls_nrm, mp_nrm, nb_nrm, hset, pick_and, pick_or, ↓reduceIte, Nat.reduceAdd, wI64, wI32, wI16, wI8, wU8, List.length_map, Int.toNat_natCast, i64s_set, tn1, natadd, natadd1, natsub, natsub1, natmul2, natmul2', wU64, hfd, mask_nrm]; rfl) (hsl := by simp +decide (disch := omega) only [nrm, lk_nrm, dc_nrm, mk_nrm, mf_nrm, ti_nrm, ls_nrm, mp_nrm, nb_nrm, hset, pick_and, pick_or, ↓reduceIte, Nat.reduceAdd, wI64, wI32, wI16, wI8, wU8, List.length_map, Int.toNat_natCast, i64s_set, tn1, natadd, natadd1, natsub, natsub1, natmul2, natmul2', wU64, hfd, mask_nrm]; rfl)
      refine d1 T0_ok ?_ (hdn := by simp +decide (disch := omega) only [nrm, lk_nrm, dc_nrm, mk_nrm, mf_nrm, ti_nrm, ls_nrm, mp_nrm, nb_nrm, hset, pick_and, pick_or, ↓reduceIte, Nat.reduceAdd, wI64, wI32, wI16, wI8, wU8, List.length_map, Int.toNat_natCast, i64s_set, tn1, natadd, natadd1, natsub, natsub1, natmul2, natmul2', wU64, hfd, mask_nrm]; rfl) (hsl := by simp +decide (disch := omega) only [nrm, lk_nrm, dc_nrm, mk_nrm, mf_nrm, ti_nrm, ls_nrm, mp_nrm, nb_nrm, hset, pick_and, pick_or, ↓reduceIte, Nat.reduceAdd, wI64, wI32, wI16, wI8, wU8, List.length_map, Int.toNat_natCast, i64s_set, tn1, natadd, natadd1, natsub, natsub1, natmul2, natmul2', wU64, hfd, mask_nrm]; rfl)
      refine d1 T0_ok ?_ (hdn := by simp +decide (disch := omega) only [nrm, lk_nrm, dc_nrm, mk_nrm, mf_nrm, ti_nrm, ls_nrm, mp_nrm, nb_nrm, hset, pick_and, pick_or, ↓reduceIte, Nat.reduceAdd, wI64, wI32, wI16, wI8, wU8, List.length_map, Int.toNat_natCast, i64s_set, tn1, natadd, natadd1, natsub, natsub1, natmul2, natmul2', wU64, hfd, mask_nrm]; rfl) (hsl := by simp +decide (disch := omega) only [nrm, lk_nrm, dc_nrm, mk_nrm, mf_nrm, ti_nrm, ls_nrm, mp_nrm, nb_nrm, hset, pick_and, pick_or, ↓reduceIte, Nat.reduceAdd, wI64, wI32, wI16, wI8, wU8, List.length_map, Int.toNat_natCast, i64s_set, tn1, natadd, natadd1, natsub, natsub1, natmul2, natmul2', wU64, hfd, mask_nrm]; rfl)
      refine d1 T0_ok ?_ (hdn := by simp +decide (disch := omega) only [nrm, lk_nrm, dc_nrm, mk_nrm, mf_nrm, ti_nrm, ls_nrm, mp_nrm, nb_nrm, hset, pick_and, pick_or, ↓reduceIte, Nat.reduceAdd, wI64, wI32, wI16, wI8, wU8, List.length_map, Int.toNat_natCast, i64s_set, tn1, natadd, natadd1, natsub, natsub1, natmul2, natmul2', wU64, hfd, mask_nrm]; rfl) (hsl := by simp +decide (disch := omega) only [nrm, lk_nrm, dc_nrm, mk_nrm, mf_nrm, ti_nrm, ls_nrm, mp_nrm, nb_nrm, hset, pick_and, pick_or, ↓reduceIte, Nat.reduceAdd, wI64, wI32, wI16, wI8, wU8, List.length_map, Int.toNat_natCast, i64s_set, tn1, natadd, natadd1, natsub, natsub1, natmul2, natmul2', wU64, hfd, mask_nrm]; rfl)
      refine d1 T0_ok ?_ (hdn := by simp +decide (disch := omega) only [nrm, lk_nrm, dc_nrm, mk_nrm, mf_nrm, ti_nrm, ls_nrm, mp_nrm, nb_nrm, hset, pick_and, pick_or, ↓reduceIte, Nat.reduceAdd, wI64, wI32, wI16, wI8, wU8, List.length_map, Int.toNat_natCast, i64s_set, tn1, natadd, natadd1, natsub, natsub1, natmul2, natmul2', wU64, hfd, mask_nrm]; rfl) (hsl := by simp +decide (disch := omega) only [nrm, lk_nrm, dc_nrm, mk_nrm, mf_nrm, ti_nrm, ls_nrm, mp_nrm, nb_nrm, hset, pick_and, pick_or, ↓reduceIte, Nat.reduceAdd, wI64, wI32, wI16, wI8, wU8, List.length_map, Int.toNat_natCast, i64s_set, tn1, natadd, natadd1, natsub, natsub1, natmul2, natmul2', wU64, hfd, mask_nrm]; rfl)
      refine d1 T0_ok ?_ (hdn := by simp +decide (disch := omega) only [nrm, lk_nrm, dc_nrm, mk_nrm, mf_nrm, ti_nrm, ls_nrm, mp_nrm, nb_nrm, hset, pick_and, pick_or, ↓reduceIte, Nat.reduceAdd, wI64, wI32, wI16, wI8, wU8, List.length_map, Int.toNat_natCast, i64s_set, tn1, natadd, natadd1, natsub, natsub1, natmul2, natmul2', wU64, hfd, mask_nrm]; rfl) (hsl := by simp +decide (disch := omega) only [nrm, lk_nrm, dc_nrm, mk_nrm, mf_nrm, ti_nrm, ls_nrm, mp_nrm, nb_nrm, hset, pick_and, pick_or, ↓reduceIte, Nat.reduceAdd, wI64, wI32, wI16, wI8, wU8, List.length_map, Int.toNat_natCast, i64s_set, tn1, natadd, natadd1, natsub, natsub1, natmul2, natmul2', wU64, hfd, mask_nrm]; rfl)
      refine d1 T0_ok ?_ (hdn := by simp +decide (disch := omega) only [nrm, lk_nrm, dc_nrm, mk_nrm, mf_nrm, ti_nrm, ls_nrm, mp_nrm, nb_nrm, hset, pick_and, pick_or, ↓reduceIte, Nat.reduceAdd, wI64, wI32, wI16, wI8, wU8, List.length_map, Int.toNat_natCast, i64s_set, tn1, natadd, natadd1, natsub, natsub1, natmul2, natmul2', wU64, hfd, mask_nrm]; rfl) (hsl := by simp +decide (disch := omega) only [nrm, lk_nrm, dc_nrm, mk_nrm, mf_nrm, ti_nrm, ls_nrm, mp_nrm, nb_nrm, hset, pick_and, pick_or, ↓reduceIte, Nat.reduceAdd, wI64, wI32, wI16, wI8, wU8, List.length_map, Int.toNat_natCast, i64s_set, tn1, natadd, natadd1, natsub, natsub1, natmul2, natmul2', wU64, hfd, mask_nrm]; rfl)
      refine d1 T0_ok ?_ (hdn := by simp +decide (disch := omega) only [nrm, lk_nrm, dc_nrm, mk_nrm, mf_nrm, ti_nrm, ls_nrm, mp_nrm, nb_nrm, hset, pick_and, pick_or, ↓reduceIte, Nat.reduceAdd, wI64, wI32, wI16, wI8, wU8, List.length_map, Int.toNat_natCast, i64s_set, tn1, natadd, natadd1, natsub, natsub1, natmul2, natmul2', wU64, hfd, mask_nrm]; rfl) (hsl := by simp +decide (disch := omega) only [nrm, lk_nrm, dc_nrm, mk_nrm, mf_nrm, ti_nrm, ls_nrm, mp_nrm, nb_nrm, hset, pick_and, pick_or, ↓reduceIte, Nat.reduceAdd, wI64, wI32, wI16, wI8, wU8, List.length_map, Int.toNat_natCast, i64s_set, tn1, natadd, natadd1, natsub, natsub1, natmul2, natmul2', wU64, hfd, mask_nrm]; rfl)
      refine dx1 T0_ok ?_ (hdn := by simp +decide (disch := omega) only [nrm, lk_nrm, dc_nrm, mk_nrm, mf_nrm, ti_nrm, ls_nrm, mp_nrm, nb_nrm, hset, pick_and, pick_or, ↓reduceIte, Nat.reduceAdd, wI64, wI32, wI16, wI8, wU8, List.length_map, Int.toNat_natCast, i64s_set, tn1, natadd, natadd1, natsub, natsub1, natmul2, natmul2', wU64, hfd, mask_nrm]; rfl) (hsl := by simp +decide (disch := omega) only [nrm, lk_nrm, dc_nrm, mk_nrm, mf_nrm, ti_nrm, ls_nrm, mp_nrm, nb_nrm, hset, pick_and, pick_or, ↓reduceIte, Nat.reduceAdd, wI64, wI32, wI16, wI8, wU8, List.length_map, Int.toNat_natCast, i64s_set, tn1, natadd, natadd1, natsub, natsub1, natmul2, natmul2', wU64, hfd, mask_nrm]; rfl)
      refine dx1 T0_ok ?_ (hdn := by simp +decide (disch := omega) only [nrm, lk_nrm, dc_nrm, mk_nrm, mf_nrm, ti_nrm, ls_nrm, mp_nrm, nb_nrm, hset, pick_and, pick_or, ↓reduceIte, Nat.reduceAdd, wI64, wI32, wI16, wI8, wU8, List.length_map, Int.toNat_natCast, i64s_set, tn1, natadd, natadd1, natsub, natsub1, natmul2, natmul2', wU64, hfd, mask_nrm]; rfl) (hsl := by simp +decide (disch := omega) only [nrm, lk_nrm, dc_nrm, mk_nrm, mf_nrm, ti_nrm, ls_nrm, mp_nrm, nb_nrm, hset, pick_and, pick_or, ↓reduceIte, Nat.reduceAdd, wI64, wI32, wI16, wI8, wU8, List.length_map, Int.toNat_natCast, i64s_set, tn1, natadd, natadd1, natsub, natsub1, natmul2, natmul2', wU64, hfd, mask_nrm]; rfl)
      refine d1 T0_ok ?_ (hdn := by simp +decide (disch := omega) only [nrm, lk_nrm, dc_nrm, mk_nrm, mf_nrm, ti_nrm, ls_nrm, mp_nrm, nb_nrm, hset, pick_and, pick_or, ↓reduceIte, Nat.reduceAdd, wI64, wI32, wI16, wI8, wU8, List.length_map, Int.toNat_natCast, i64s_set, tn1, natadd, natadd1, natsub, natsub1, natmul2, natmul2', wU64, hfd, mask_nrm]; rfl) (hsl := by simp +decide (disch := omega) only [nrm, lk_nrm, dc_nrm, mk_nrm, mf_nrm, ti_nrm, ls_nrm, mp_nrm, nb_nrm, hset, pick_and, pick_or, ↓reduceIte, Nat.reduceAdd, wI64, wI32, wI16, wI8, wU8, List.length_map, Int.toNat_natCast, i64s_set, tn1, natadd, natadd1, natsub, natsub1, natmul2, natmul2', wU64, hfd, mask_nrm]; rfl)
      refine d1 T0_ok ?_ (hdn := by simp +decide (disch := omega) only [nrm, lk_nrm, dc_nrm, mk_nrm, mf_nrm, ti_nrm, ls_nrm, mp_nrm, nb_nrm, hset, pick_and, pick_or, ↓reduceIte, Nat.reduceAdd, wI64, wI32, wI16, wI8, wU8, List.length_map, Int.toNat_natCast, i64s_set, tn1, natadd, natadd1, natsub, natsub1, natmul2, natmul2', wU64, hfd, mask_nrm]; rfl) (hsl := by simp +decide (disch := omega) only [nrm, lk_nrm, dc_nrm, mk_nrm, mf_nrm, ti_nrm, ls_nrm, mp_nrm, nb_nrm, hset, pick_and, pick_or, ↓reduceIte, Nat.reduceAdd, wI64, wI32, wI16, wI8, wU8, List.length_map, Int.toNat_natCast, i64s_set, tn1, natadd, natadd1, natsub, natsub1, natmul2, natmul2', wU64, hfd, mask_nrm]; rfl)
      refine dx1 T0_ok ?_ (hdn := by simp +decide (disch := omega) only [nrm, lk_nrm, dc_nrm, mk_nrm, mf_nrm, ti_nrm, ls_nrm, mp_nrm, nb_nrm, hset, pick_and, pick_or, ↓reduceIte, Nat.reduceAdd, wI64, wI32, wI16, wI8, wU8, List.length_map, Int.toNat_natCast, i64s_set, tn1, natadd, natadd1, natsub, natsub1, natmul2, natmul2', wU64, hfd, mask_nrm]; rfl) (hsl := by simp +decide (disch := omega) only [nrm, lk_nrm, dc_nrm, mk_nrm, mf_nrm, ti_nrm, ls_nrm, mp_nrm, nb_nrm, hset, pick_and, pick_or, ↓reduceIte, Nat.reduceAdd, wI64, wI32, wI16, wI8, wU8, List.length_map, Int.toNat_natCast, i64s_set, tn1, natadd, natadd1, natsub, natsub1, natmul2, natmul2', wU64, hfd, mask_nrm]; rfl)
      refine dx1 T0_ok ?_ (hdn := by simp +decide (disch := omega) only [nrm, lk_nrm, dc_nrm, mk_nrm, mf_nrm, ti_nrm, ls_nrm, mp_nrm, nb_nrm, hset, pick_and, pick_or, ↓reduceIte, Nat.reduceAdd, wI64, wI32, wI16, wI8, wU8, List.length_map, Int.toNat_natCast, i64s_set, tn1, natadd, natadd1, natsub, natsub1, natmul2, natmul2', wU64, hfd, mask_nrm]; rfl) (hsl := by simp +decide (disch := omega) only [nrm, lk_nrm, dc_nrm, mk_nrm, mf_nrm, ti_nrm, ls_nrm, mp_nrm, nb_nrm, hset, pick_and, pick_or, ↓reduceIte, Nat.reduceAdd, wI64, wI32, wI16, wI8, wU8, List.length_map, Int.toNat_natCast, i64s_set, tn1, natadd, natadd1, natsub, natsub1, natmul2, natmul2', wU64, hfd, mask_nrm]; rfl)
      refine dx1 T0_ok ?_ (hdn := by simp +decide (disch := omega) only [nrm, lk_nrm, dc_nrm, mk_nrm, mf_nrm, ti_nrm, ls_nrm, mp_nrm, nb_nrm, hset, pick_and, pick_or, ↓reduceIte, Nat.reduceAdd, wI64, wI32, wI16, wI8, wU8, List.length_map, Int.toNat_natCast, i64s_set, tn1, natadd, natadd1, natsub, natsub1, natmul2, natmul2', wU64, hfd, mask_nrm]; rfl) (hsl := by simp +decide (disch := omega) only [nrm, lk_nrm, dc_nrm, mk_nrm, mf_nrm, ti_nrm, ls_nrm, mp_nrm, nb_nrm, hset, pick_and, pick_or, ↓reduceIte, Nat.reduceAdd, wI64, wI32, wI16, wI8, wU8, List.length_map, Int.toNat_natCast, i64s_set, tn1, natadd, natadd1, natsub, natsub1, natmul2, natmul2', wU64, hfd, mask_nrm]; rfl)
      refine dp1 ?_ (oprel_astep T0_ok (by first | rfl | exact astep_load_p (by rfl) (by rfl) (by rfl) (by exact i64s_get _ _ (by omega)) (by rfl) | exact astep_store_p (by rfl) (by rfl) (by rfl) (by rfl) (by exact i64s_get _ _ (by first | omega | (simp only [List.length_set]; omega)))) rfl (by first | trivial | rfl | exact ⟨rfl, rfl⟩ | exact ⟨rfl, rfl, fun _ => rfl, Nat.le_of_ble_eq_true rfl, .inl rfl⟩ | exact ⟨rfl, rfl, fun h => (nomatch h), Nat.le_of_ble_eq_true rfl, .inl rfl⟩ | exact ⟨rfl, rfl, fun _ => rfl, Nat.le_of_ble_eq_true rfl, .inr rfl⟩ | exact ⟨rfl, rfl, fun h => (nomatch h), Nat.le_of_ble_eq_true rfl, .inr rfl⟩ | omega | exact ⟨rfl, by (repeat (first | exact fm_nil | refine fm_cons ⟨rfl, rfl⟩ ?_)), Nat.le_of_ble_eq_true rfl, Nat.le_of_ble_eq_true rfl⟩ | (refine ⟨?_, ?_, ?_, ?_, ?_, ?_, ?_⟩ <;> first | omega | exact Nat.le_of_ble_eq_true rfl) | exact ⟨rfl, by omega, by (try simp only [List.length_map, List.length_set]); omega⟩ | exact ⟨rfl, by omega, by simp only [Int.toNat_natCast]; omega, by omega, Nat.le_of_ble_eq_true rfl, rfl⟩)) (hdn := by simp +decide (disch := omega) only [nrm, lk_nrm, dc_nrm, mk_nrm, mf_nrm, ti_nrm, ls_nrm, mp_nrm, nb_nrm, hset, pick_and, pick_or, ↓reduceIte, Nat.reduceAdd, wI64, wI32, wI16, wI8, wU8, List.length_map, Int.toNat_natCast, i64s_set, tn1, natadd, natadd1, natsub, natsub1, natmul2, natmul2', wU64, hfd, mask_nrm]; rfl) (hhp := by simp +decide (disch := omega) only [nrm, lk_nrm, dc_nrm, mk_nrm, mf_nrm, ti_nrm, ls_nrm, mp_nrm, nb_nrm, hset, pick_and, pick_or, ↓reduceIte, Nat.reduceAdd, wI64, wI32, wI16, wI8, wU8, List.length_map, Int.toNat_natCast, i64s_set, tn1, natadd, natadd1, natsub, natsub1, natmul2, natmul2', wU64, hfd, mask_nrm]; try rfl) (hnx := by simp +decide (disch := omega) only [nrm, lk_nrm, dc_nrm, mk_nrm, mf_nrm, ti_nrm, ls_nrm, mp_nrm, nb_nrm, hset, pick_and, pick_or, ↓reduceIte, Nat.reduceAdd, wI64, wI32, wI16, wI8, wU8, List.length_map, Int.toNat_natCast, i64s_set, tn1, natadd, natadd1, natsub, natsub1, natmul2, natmul2', wU64, hfd, mask_nrm]; try rfl) (hsl := by simp +decide (disch := omega) only [nrm, lk_nrm, dc_nrm, mk_nrm, mf_nrm, ti_nrm, ls_nrm, mp_nrm, nb_nrm, hset, pick_and, pick_or, ↓reduceIte, Nat.reduceAdd, wI64, wI32, wI16, wI8, wU8, List.length_map, Int.toNat_natCast, i64s_set, tn1, natadd, natadd1, natsub, natsub1, natmul2, natmul2', wU64, hfd, mask_nrm]; rfl)
      refine dp1 ?_ (oprel_astep T0_ok (by first | rfl | exact astep_load_p (by rfl) (by rfl) (by rfl) (by exact i64s_get _ _ (by omega)) (by rfl) | exact astep_store_p (by rfl) (by rfl) (by rfl) (by rfl) (by exact i64s_get _ _ (by first | omega | (simp only [List.length_set]; omega)))) rfl (by first | trivial | rfl | exact ⟨rfl, rfl⟩ | exact ⟨rfl, rfl, fun _ => rfl, Nat.le_of_ble_eq_true rfl, .inl rfl⟩ | exact ⟨rfl, rfl, fun h => (nomatch h), Nat.le_of_ble_eq_true rfl, .inl rfl⟩ | exact ⟨rfl, rfl, fun _ => rfl, Nat.le_of_ble_eq_true rfl, .inr rfl⟩ | exact ⟨rfl, rfl, fun h => (nomatch h), Nat.le_of_ble_eq_true rfl, .inr rfl⟩ | omega | exact ⟨rfl, by (repeat (first | exact fm_nil | refine fm_cons ⟨rfl, rfl⟩ ?_)), Nat.le_of_ble_eq_true rfl, Nat.le_of_ble_eq_true rfl⟩ | (refine ⟨?_, ?_, ?_, ?_, ?_, ?_, ?_⟩ <;> first | omega | exact Nat.le_of_ble_eq_true rfl) | exact ⟨rfl, by omega, by (try simp only [List.length_map, List.length_set]); omega⟩ | exact ⟨rfl, by omega, by simp only [Int.toNat_natCast]; omega, by omega, Nat.le_of_ble_eq_true rfl, rfl⟩)) (hdn := by simp +decide (disch := omega) only [nrm, lk_nrm, dc_nrm, mk_nrm, mf_nrm, ti_nrm, ls_nrm, mp_nrm, nb_nrm, hset, pick_and, pick_or, ↓reduceIte, Nat.reduceAdd, wI64, wI32, wI16, wI8, wU8, List.length_map, Int.toNat_natCast, i64s_set, tn1, natadd, natadd1, natsub, natsub1, natmul2, natmul2', wU64, hfd, mask_nrm]; rfl) (hhp := by simp +decide (disch := omega) only [nrm, lk_nrm, dc_nrm, mk_nrm, mf_nrm, ti_nrm, ls_nrm, mp_nrm, nb_nrm, hset, pick_and, pick_or, ↓reduceIte, Nat.reduceAdd, wI64, wI32, wI16, wI8, wU8, List.length_map, Int.toNat_natCast, i64s_set, tn1, natadd, natadd1, natsub, natsub1, natmul2, natmul2', wU64, hfd, mask_nrm]; try rfl) (hnx := by simp +decide (disch := omega) only [nrm, lk_nrm, dc_nrm, mk_nrm, mf_nrm, ti_nrm, ls_nrm, mp_nrm, nb_nrm, hset, pick_and, pick_or, ↓reduceIte, Nat.reduceAdd, wI64, wI32, wI16, wI8, wU8, List.length_map, Int.toNat_natCast, i64s_set, tn1, natadd, natadd1, natsub, natsub1, natmul2, natmul2', wU64, hfd, mask_nrm]; try rfl) (hsl := by simp +decide (disch := omega) only [nrm, lk_nrm, dc_nrm, mk_nrm, mf_nrm, ti_nrm, ls_nrm, mp_nrm, nb_nrm, hset, pick_and, pick_or, ↓reduceIte, Nat.reduceAdd, wI64, wI32, wI16, wI8, wU8, List.length_map, Int.toNat_natCast, i64s_set, tn1, natadd, natadd1, natsub, natsub1, natmul2, natmul2', wU64, hfd, mask_nrm]; rfl)
      refine dp1 ?_ (oprel_astep T0_ok (by first | rfl | exact astep_load_p (by rfl) (by rfl) (by rfl) (by exact i64s_get _ _ (by omega)) (by rfl) | exact astep_store_p (by rfl) (by rfl) (by rfl) (by rfl) (by exact i64s_get _ _ (by first | omega | (simp only [List.length_set]; omega)))) rfl (by first | trivial | rfl | exact ⟨rfl, rfl⟩ | exact ⟨rfl, rfl, fun _ => rfl, Nat.le_of_ble_eq_true rfl, .inl rfl⟩ | exact ⟨rfl, rfl, fun h => (nomatch h), Nat.le_of_ble_eq_true rfl, .inl rfl⟩ | exact ⟨rfl, rfl, fun _ => rfl, Nat.le_of_ble_eq_true rfl, .inr rfl⟩ | exact ⟨rfl, rfl, fun h => (nomatch h), Nat.le_of_ble_eq_true rfl, .inr rfl⟩ | omega | exact ⟨rfl, by (repeat (first | exact fm_nil | refine fm_cons ⟨rfl, rfl⟩ ?_)), Nat.le_of_ble_eq_true rfl, Nat.le_of_ble_eq_true rfl⟩ | (refine ⟨?_, ?_, ?_, ?_, ?_, ?_, ?_⟩ <;> first | omega | exact Nat.le_of_ble_eq_true rfl) | exact ⟨rfl, by omega, by (try simp only [List.length_map, List.length_set]); omega⟩ | exact ⟨rfl, by omega, by simp only [Int.toNat_natCast]; omega, by omega, Nat.le_of_ble_eq_true rfl, rfl⟩)) (hdn := by simp +decide (disch := omega) only [nrm, lk_nrm, dc_nrm, mk_nrm, mf_nrm, ti_nrm, ls_nrm, mp_nrm, nb_nrm, hset, pick_and, pick_or, ↓reduceIte, Nat.reduceAdd, wI64, wI32, wI16, wI8, wU8, List.length_map, Int.toNat_natCast, i64s_set, tn1, natadd, natadd1, natsub, natsub1, natmul2, natmul2', wU64, hfd, mask_nrm]; rfl) (hhp := by simp +decide (disch := omega) only [nrm, lk_nrm, dc_nrm, mk_nrm, mf_nrm, ti_nrm, ls_nrm, mp_nrm, nb_nrm, hset, pick_and, pick_or, ↓reduceIte, Nat.reduceAdd, wI64, wI32, wI16, wI8, wU8, List.length_map, Int.toNat_natCast, i64s_set, tn1, natadd, natadd1, natsub, natsub1, natmul2, natmul2', wU64, hfd, mask_nrm]; try rfl) (hnx := by simp +decide (disch := omega) only [nrm, lk_nrm, dc_nrm, mk_nrm, mf_nrm, ti_nrm, ls_nrm, mp_nrm, nb_nrm, hset, pick_and, pick_or, ↓reduceIte, Nat.reduceAdd, wI64, wI32, wI16, wI8, wU8, List.length_map, Int.toNat_natCast, i64s_set, tn1, natadd, natadd1, natsub, natsub1, natmul2, natmul2', wU64, hfd, mask_nrm]; try rfl) (hsl := by simp +decide (disch := omega) only [nrm, lk_nrm, dc_nrm, mk_nrm, mf_nrm, ti_nrm, ls_nrm, mp_nrm, nb_nrm, hset, pick_and, pick_or, ↓reduceIte, Nat.reduceAdd, wI64, wI32, wI16, wI8, wU8, List.length_map, Int.toNat_natCast, i64s_set, tn1, natadd, natadd1, natsub, natsub1, natmul2, natmul2', wU64, hfd, mask_nrm]; rfl)
      refine dreg_nil ?_
      refine r1 T0_ok hP hm hN ?_
      refine g1 ?_ (hst := by simp +decide (disch := omega) only [nrm, lk_nrm, dc_nrm, mk_nrm, mf_nrm, ti_nrm, ls_nrm, mp_nrm, nb_nrm, hset, pick_and, pick_or, ↓reduceIte, Nat.reduceAdd, wI64, wI32, wI16, wI8, wU8, List.length_map, Int.toNat_natCast, i64s_set, tn1, natadd, natadd1, natsub, natsub1, natmul2, natmul2', wU64, hfd]; rfl)
      refine g1 ?_ (hst := by simp +decide (disch := omega) only [nrm, lk_nrm, dc_nrm, mk_nrm, mf_nrm, ti_nrm, ls_nrm, mp_nrm, nb_nrm, hset, pick_and, pick_or, ↓reduceIte, Nat.reduceAdd, wI64, wI32, wI16, wI8, wU8, List.length_map, Int.toNat_natCast, i64s_set, tn1, natadd, natadd1, natsub, natsub1, natmul2, natmul2', wU64, hfd]; rfl)
      refine g1 ?_ (hst := by simp +decide (disch := omega) only [nrm, lk_nrm, dc_nrm, mk_nrm, mf_nrm, ti_nrm, ls_nrm, mp_nrm, nb_nrm, hset, pick_and, pick_or, ↓reduceIte, Nat.reduceAdd, wI64, wI32, wI16, wI8, wU8, List.length_map, Int.toNat_natCast, i64s_set, tn1, natadd, natadd1, natsub, natsub1, natmul2, natmul2', wU64, hfd]; rfl)
      refine ⟨j - 1, _, by omega, (by rw [← hsw]; exact weak_sl (sub_cons rfl (sub_cons rfl (sub_cons rfl (sub_cons rfl (sub_cons rfl (sub_cons rfl (sub_nil)))))))), j - 1, swp zs j (j - 1), by omega, by omega, hb2, (swp_perm (by omega) (by omega)).trans hzp, hgt2, rfl, rfl⟩
    · skip
      have hstop : j = a ∨ ¬ c (ys.getD i 0) (ys.getD (j - 1) 0) < 0 := by
        rcases Nat.eq_or_lt_of_le haj with h | h
        · exact .inl h.symm
        · right
          intro hlt
          rw [← hzj, ← hzj1.resolve_right (by omega)] at hlt
          have : decide ((j : Int) > (a : Int)) = true := by simp; omega
          rw [this, Bool.true_and] at hc1
          simp only [decide_eq_false_iff_not] at hc1
          exact hc1 hlt
      have hnew : SegP a (i + 1) xs zs := (hsg.wide (Nat.le_refl _) (Nat.le_succ _)).trans (bubL_seg hz hzp haj hji (Nat.lt_succ_self _))
      refine awp_exit ?_
      repeat refine thenA_exit ?_
      refine blockA_hit ?_
      refine r1 T0_ok hP hm hN ?_
      refine g1 ?_ (hst := by simp +decide (disch := omega) only [nrm, lk_nrm, dc_nrm, mk_nrm, mf_nrm, ti_nrm, ls_nrm, mp_nrm, nb_nrm, hset, pick_and, pick_or, ↓reduceIte, Nat.reduceAdd, wI64, wI32, wI16, wI8, wU8, List.length_map, Int.toNat_natCast, i64s_set, tn1, natadd, natadd1, natsub, natsub1, natmul2, natmul2', wU64, hfd]; rfl)
      refine g1 ?_ (hst := by simp +decide (disch := omega) only [nrm, lk_nrm, dc_nrm, mk_nrm, mf_nrm, ti_nrm, ls_nrm, mp_nrm, nb_nrm, hset, pick_and, pick_or, ↓reduceIte, Nat.reduceAdd, wI64, wI32, wI16, wI8, wU8, List.length_map, Int.toNat_natCast, i64s_set, tn1, natadd, natadd1, natsub, natsub1, natmul2, natmul2', wU64, hfd]; rfl)
      refine g1 ?_ (hst := by simp +decide (disch := omega) only [nrm, lk_nrm, dc_nrm, mk_nrm, mf_nrm, ti_nrm, ls_nrm, mp_nrm, nb_nrm, hset, pick_and, pick_or, ↓reduceIte, Nat.reduceAdd, wI64, wI32, wI16, wI8, wU8, List.length_map, Int.toNat_natCast, i64s_set, tn1, natadd, natadd1, natsub, natsub1, natmul2, natmul2', wU64, hfd]; rfl)
      refine ⟨b - (i + 1), _, by omega, weak_sl (sub_cons rfl (sub_cons rfl (sub_cons rfl (sub_cons rfl (sub_cons rfl (sub_nil)))))), i + 1, zs, by omega, .inl (by omega), fun h => by omega, hnew, ins_done hC.ord hsd hz haj hji hasi hgt hstop, rfl, rfl⟩
  · skip
    have hgei : ¬ i < b := by simpa using hc0
    have hfin : srt c a b xs = ys := by
      refine srt_eq hC.ord hab hbl ?_ (fun p q a1 a2 a3 => hsd p q a1 a2 (by omega))
      rcases hi2 with h | h
      · rw [show b = i by omega]; exact hsg
      · rw [hi3 h]; exact .rfl'
    refine awp_exit ?_
    repeat refine thenA_exit ?_
    refine blockA_hit ?_
    refine fin_mk [] rfl rfl ?_ (by simp only [hfin]; exact objs_cons rfl rfl rfl rfl rfl (.inl rfl) objs_nil) (by decide)
    rfl
end Go.Proofs.Ythdgihkffcmkiaa.Abs

