import Derived.Test.YtpdkhlpmiblflaaGreatW9
set_option linter.unusedVariables false
set_option linter.unusedSimpArgs false
namespace Go.Proofs.YtpdkhlpmiblflaaGreat.Abs
open Go Go.RowKit
theorem ext_getD {xs ys : List Int} (hl : xs.length = ys.length) (h : ∀ j, j < xs.length → xs.getD j 0 = ys.getD j 0) : xs = ys := by
  apply List.ext_getElem hl
  intro i h1 h2
  have := h i h1
  simpa [List.getD, h1, h2] using this
structure OrdC (c : Int → Int → Int) : Prop where
  anti : ∀ x y, c y x = - c x y
  trans : ∀ x y z, c x y ≤ 0 → c y z ≤ 0 → c x z ≤ 0
def ltC (c : Int → Int → Int) (x y : Int) : Prop := c x y < 0 ∨ (c x y = 0 ∧ x < y)
section ord
variable {c : Int → Int → Int} (h : OrdC c)
include h
theorem ltC_asymm {x y : Int} (h1 : ltC c x y) (h2 : ltC c y x) : False := by
  have := h.anti x y
  unfold ltC at *
  omega
theorem ltC_irrefl {x : Int} (h1 : ltC c x x) : False := ltC_asymm h h1 h1
theorem lt_mono {x y z : Int} (h1 : c x y ≤ 0) (h2 : c y z < 0) : c x z < 0 := by
  have h3 := h.trans x y z h1 (by omega)
  rcases Int.lt_or_eq_of_le h3 with h4 | h4
  · exact h4
  · have a1 := h.anti x z
    have := h.trans z x y (by omega) h1
    have a2 := h.anti y z
    omega
theorem lt_mono' {x y z : Int} (h1 : c x y < 0) (h2 : c y z ≤ 0) : c x z < 0 := by
  have h3 := h.trans x y z (by omega) h2
  rcases Int.lt_or_eq_of_le h3 with h4 | h4
  · exact h4
  · have a1 := h.anti x z
    have := h.trans y z x h2 (by omega)
    have a2 := h.anti x y
    omega
theorem ltC_le {x y : Int} (h1 : ltC c x y) : c x y ≤ 0 := by have := h.anti x y; unfold ltC at h1; omega
theorem ltC_trans {x y z : Int} (h1 : ltC c x y) (h2 : ltC c y z) : ltC c x z := by
  rcases h1 with h1 | h1
  · exact .inl (lt_mono' h h1 (ltC_le h h2))
  · rcases h2 with h2 | h2
    · exact .inl (lt_mono h (by omega) h2)
    · have h3 := h.trans x y z (by omega) (by omega)
      have h4 := h.trans z y x (by have := h.anti y z; omega) (by have := h.anti x y; omega)
      have := h.anti x z
      exact .inr ⟨by omega, by omega⟩
theorem ltC_of_not {x y : Int} (h1 : ¬ c y x < 0) (h2 : x < y) : ltC c x y := by
  have := h.anti x y
  unfold ltC
  omega
end ord
def Sd (c : Int → Int → Int) (a b : Nat) (ys : List Int) : Prop := ∀ i j, a ≤ i → i < j → j < b → ltC c (ys.getD i 0) (ys.getD j 0)
structure SegP (a b : Nat) (xs ys : List Int) : Prop where
  perm : ys.Perm xs
  out : ∀ i, i < a ∨ b ≤ i → ys.getD i 0 = xs.getD i 0
theorem SegP.rfl' {a b : Nat} {xs : List Int} : SegP a b xs xs := ⟨.refl _, fun _ _ => rfl⟩
theorem SegP.trans {a b : Nat} {xs ys zs : List Int} (h1 : SegP a b xs ys) (h2 : SegP a b ys zs) : SegP a b xs zs := ⟨h2.perm.trans h1.perm, fun i hi => (h2.out i hi).trans (h1.out i hi)⟩
theorem SegP.wide {a b a' b' : Nat} {xs ys : List Int} (h : SegP a b xs ys) (h1 : a' ≤ a) (h2 : b ≤ b') : SegP a' b' xs ys := ⟨h.perm, fun i hi => h.out i (by omega)⟩
theorem SegP.len {a b : Nat} {xs ys : List Int} (h : SegP a b xs ys) : ys.length = xs.length := h.perm.length_eq
def seg (xs : List Int) (a b : Nat) : List Int := (xs.drop a).take (b - a)
theorem seg_len {xs : List Int} {a b : Nat} (h1 : a ≤ b) (h2 : b ≤ xs.length) : (seg xs a b).length = b - a := by simp [seg]; omega
theorem seg_get {xs : List Int} {a b j : Nat} (h : j < b - a) : (seg xs a b).getD j 0 = xs.getD (a + j) 0 := by
  simp [seg, List.getD, List.getElem?_take, List.getElem?_drop, h]
theorem split3 (xs : List Int) {a b : Nat} (h1 : a ≤ b) : xs = xs.take a ++ (seg xs a b ++ xs.drop b) := by
  have : seg xs a b ++ xs.drop b = xs.drop a := by
    have e : xs.drop b = (xs.drop a).drop (b - a) := by rw [List.drop_drop]; congr 1; omega
    rw [e, seg, List.take_append_drop]
  rw [this, List.take_append_drop]
theorem SegP.parts {a b : Nat} {xs ys : List Int} (h : SegP a b xs ys) (h1 : a ≤ b) (h2 : b ≤ xs.length) : ys.take a = xs.take a ∧ ys.drop b = xs.drop b ∧ (seg ys a b).Perm (seg xs a b) := by
  have hl := h.len
  have e1 : ys.take a = xs.take a := ext_getD (by simp [hl]) (fun j hj => by
    have hja : j < a := by simp at hj; omega
    have := h.out j (by omega)
    simpa [List.getD, List.getElem?_take, hja] using this)
  have e2 : ys.drop b = xs.drop b := ext_getD (by simp [hl]) (fun j hj => by
    have := h.out (b + j) (by omega)
    simpa [List.getD, List.getElem?_drop] using this)
  refine ⟨e1, e2, ?_⟩
  have hp := h.perm
  rw [split3 ys h1, split3 xs h1, e1, e2] at hp
  exact (List.perm_append_right_iff _).1 ((List.perm_append_left_iff _).1 hp)
theorem SegP.mem {a b : Nat} {xs ys : List Int} (h : SegP a b xs ys) (h1 : a ≤ b) (h2 : b ≤ xs.length) {p : Nat} (hp1 : a ≤ p) (hp2 : p < b) : ∃ q, a ≤ q ∧ q < b ∧ ys.getD p 0 = xs.getD q 0 := by
  obtain ⟨_, _, hp⟩ := h.parts h1 h2
  have hlen := seg_len (xs := ys) h1 (by rw [h.len]; exact h2)
  have hlx := seg_len h1 h2
  have hm : (seg ys a b).getD (p - a) 0 ∈ seg ys a b := by
    rw [List.getD, List.getElem?_eq_getElem (by omega)]; exact List.getElem_mem _
  rw [seg_get (by omega), show a + (p - a) = p by omega] at hm
  obtain ⟨q, hq, he⟩ := List.getElem_of_mem (hp.mem_iff.1 hm)
  refine ⟨a + q, by omega, by omega, ?_⟩
  rw [← seg_get (b := b) (by omega), ← he, List.getD, List.getElem?_eq_getElem hq]
  rfl
theorem perm_sorted_eq {c : Int → Int → Int} (h : OrdC c) : ∀ {l1 l2 : List Int}, l1.Perm l2 → l1.Pairwise (ltC c) → l2.Pairwise (ltC c) → l1 = l2
  | [], l2, hp, _, _ => (List.Perm.nil_eq hp)
  | x :: l1, [], hp, _, _ => by have := hp.length_eq; simp at this
  | x :: l1, y :: l2, hp, s1, s2 => by
    rw [List.pairwise_cons] at s1 s2
    have hxy : x = y := by
      have hx : x ∈ y :: l2 := hp.mem_iff.1 (by simp)
      have hy : y ∈ x :: l1 := hp.mem_iff.2 (by simp)
      rcases List.mem_cons.1 hx with hx | hx
      · exact hx
      · rcases List.mem_cons.1 hy with hy | hy
        · exact hy.symm
        · exact (ltC_asymm h (s2.1 x hx) (s1.1 y hy)).elim
    subst hxy
    rw [perm_sorted_eq h (List.Perm.cons_inv hp) s1.2 s2.2]
theorem sd_pair {c : Int → Int → Int} {a b : Nat} {ys : List Int} (h1 : a ≤ b) (h2 : b ≤ ys.length) : Sd c a b ys ↔ (seg ys a b).Pairwise (ltC c) := by
  rw [List.pairwise_iff_getElem]
  have hl := seg_len h1 h2
  have hg : ∀ j (hj : j < (seg ys a b).length), (seg ys a b)[j] = ys.getD (a + j) 0 := fun j hj => by
    rw [← seg_get (b := b) (by omega), List.getD, List.getElem?_eq_getElem hj]; rfl
  constructor
  · intro hs i j hi hj hij
    rw [hg, hg]
    exact hs _ _ (by omega) (by omega) (by omega)
  · intro hs i j hi hij hj
    have := hs (i - a) (j - a) (by omega) (by omega) (by omega)
    rw [hg, hg, show a + (i - a) = i by omega, show a + (j - a) = j by omega] at this
    exact this
theorem seg_unique {c : Int → Int → Int} (h : OrdC c) {a b : Nat} {xs ys zs : List Int} (hab : a ≤ b) (hbl : b ≤ xs.length) (h1 : SegP a b xs ys) (s1 : Sd c a b ys) (h2 : SegP a b xs zs) (s2 : Sd c a b zs) : ys = zs := by
  obtain ⟨a1, a2, a3⟩ := h1.parts hab hbl
  obtain ⟨b1, b2, b3⟩ := h2.parts hab hbl
  have e := perm_sorted_eq h (a3.trans b3.symm) ((sd_pair hab (by rw [h1.len]; exact hbl)).1 s1) ((sd_pair hab (by rw [h2.len]; exact hbl)).1 s2)
  rw [split3 ys hab, split3 zs hab, a1, a2, b1, b2, e]
def leB (c : Int → Int → Int) (x y : Int) : Bool := decide (c x y < 0) || (decide (c x y = 0) && decide (x ≤ y))
theorem seg_exists {c : Int → Int → Int} (h : OrdC c) {a b : Nat} {xs : List Int} (hab : a ≤ b) (hbl : b ≤ xs.length) (hd : ∀ i j, a ≤ i → i < j → j < b → xs.getD i 0 ≠ xs.getD j 0) : ∃ ys, SegP a b xs ys ∧ Sd c a b ys := by
  have hle : ∀ x y, leB c x y = true ↔ (c x y < 0 ∨ (c x y = 0 ∧ x ≤ y)) := fun x y => by simp [leB]
  have hlt : ∀ x y, leB c x y = true → x ≠ y → ltC c x y := fun x y h1 hne => by
    rw [hle] at h1; unfold ltC; omega
  have htr : ∀ x y z, leB c x y = true → leB c y z = true → leB c x z = true := fun x y z h1 h2 => by
    by_cases e : x = y
    · subst e; exact h2
    · by_cases e2 : y = z
      · subst e2; exact h1
      · have := ltC_trans h (hlt x y h1 e) (hlt y z h2 e2)
        rw [hle]; unfold ltC at this; omega
  have hto : ∀ x y, (leB c x y || leB c y x) = true := fun x y => by
    by_cases e : x = y
    · subst e
      have h0 := h.anti x x
      have : leB c x x = true := by rw [hle]; omega
      simp [this]
    · rw [Bool.or_eq_true, hle, hle]
      have := h.anti x y
      omega
  have hs := List.pairwise_mergeSort htr hto (seg xs a b)
  have hp := List.mergeSort_perm (seg xs a b) (leB c)
  have hln := seg_len hab hbl
  have hl : ((seg xs a b).mergeSort (leB c)).length = b - a := by rw [hp.length_eq, hln]
  have hnd : (seg xs a b).Nodup := by
    rw [List.Nodup, List.pairwise_iff_getElem]
    intro i j hi hj hij
    have := hd (a + i) (a + j) (by omega) (by omega) (by omega)
    rw [← seg_get (b := b) (by omega), ← seg_get (b := b) (by omega)] at this
    simpa [List.getD, hi, hj] using this
  have hnd2 : ((seg xs a b).mergeSort (leB c)).Nodup := hp.nodup_iff.2 hnd
  have htake : (xs.take a).length = a := by simp; omega
  have hout : ∀ i, i < a ∨ b ≤ i → (xs.take a ++ ((seg xs a b).mergeSort (leB c) ++ xs.drop b)).getD i 0 = xs.getD i 0 := fun i hi => by
    rcases hi with hi | hi
    · rw [List.getD, List.getElem?_append_left (by omega), List.getElem?_take, if_pos hi]; rfl
    · rw [List.getD, List.getElem?_append_right (by omega), List.getElem?_append_right (by omega), htake, hl, List.getElem?_drop, List.getD]
      congr 2; omega
  refine ⟨xs.take a ++ ((seg xs a b).mergeSort (leB c) ++ xs.drop b), ⟨?_, hout⟩, ?_⟩
  · have := (List.perm_append_left_iff (xs.take a)).2 ((List.perm_append_right_iff (xs.drop b)).2 hp)
    rwa [← split3 xs hab] at this
  · rw [sd_pair hab (by simp [hl]; omega)]
    have hse : seg (xs.take a ++ ((seg xs a b).mergeSort (leB c) ++ xs.drop b)) a b = (seg xs a b).mergeSort (leB c) := by
      unfold seg at *
      rw [List.drop_append_of_le_length (by omega), List.drop_of_length_le (by omega), List.nil_append, List.take_append_of_le_length (by omega), List.take_of_length_le (by omega)]
    rw [hse, List.pairwise_iff_getElem]
    intro i j hi hj hij
    have h1 := List.pairwise_iff_getElem.1 hs i j hi hj hij
    have h2 := List.pairwise_iff_getElem.1 hnd2 i j hi hj hij
    exact hlt _ _ h1 h2
open Classical in
noncomputable def srt (c : Int → Int → Int) (a b : Nat) (xs : List Int) : List Int := if h : ∃ ys, SegP a b xs ys ∧ Sd c a b ys then Classical.choose h else xs
theorem srt_eq {c : Int → Int → Int} (h : OrdC c) {a b : Nat} {xs ys : List Int} (hab : a ≤ b) (hbl : b ≤ xs.length) (h1 : SegP a b xs ys) (s1 : Sd c a b ys) : srt c a b xs = ys := by
  have hex : ∃ ys, SegP a b xs ys ∧ Sd c a b ys := ⟨ys, h1, s1⟩
  rw [srt, dif_pos hex]
  obtain ⟨h2, s2⟩ := Classical.choose_spec hex
  exact seg_unique h hab hbl h2 s2 h1 s1
theorem srt_ok {c : Int → Int → Int} (h : OrdC c) {a b : Nat} {xs : List Int} (hab : a ≤ b) (hbl : b ≤ xs.length) (hd : ∀ i j, a ≤ i → i < j → j < b → xs.getD i 0 ≠ xs.getD j 0) : SegP a b xs (srt c a b xs) ∧ Sd c a b (srt c a b xs) := by
  have hex := seg_exists h hab hbl hd
  rw [srt, dif_pos hex]
  exact Classical.choose_spec hex

/-! ### Exchanges -/
def swp (xs : List Int) (i j : Nat) : List Int := (xs.set i (xs.getD j 0)).set j (xs.getD i 0)
theorem set_getD {f : List Int} {i j : Nat} {v : Int} (h : i < f.length) : (f.set i v).getD j 0 = if j = i then v else f.getD j 0 := by
  by_cases e : j = i
  · subst e; simp [List.getD, h]
  · simp [List.getD, List.getElem?_set, e, Ne.symm e]
theorem swp_get {xs : List Int} {i j : Nat} (hi : i < xs.length) (hj : j < xs.length) (p : Nat) : (swp xs i j).getD p 0 = if p = j then xs.getD i 0 else if p = i then xs.getD j 0 else xs.getD p 0 := by
  rw [swp, set_getD (by simpa using hj), set_getD hi]
theorem swp_perm {xs : List Int} {i j : Nat} (hi : i < xs.length) (hj : j < xs.length) : (swp xs i j).Perm xs := by
  have := List.set_set_perm hi hj
  simpa [swp, List.getD, hi, hj] using this
def BubL (xs zs : List Int) (i j : Nat) : Prop := ∀ p, zs.getD p 0 = if p = j then xs.getD i 0 else if j < p ∧ p ≤ i then xs.getD (p - 1) 0 else xs.getD p 0
theorem bubL_0 (xs : List Int) (i : Nat) : BubL xs xs i i := fun p => by
  split
  · rename_i h; rw [h]
  · rw [if_neg (by omega)]
theorem bubL_step {xs zs : List Int} {i j : Nat} (h : BubL xs zs i (j + 1)) (hji : j + 1 ≤ i) (hl : i < zs.length) : BubL xs (swp zs (j + 1) j) i j := fun p => by
  rw [swp_get (by omega) (by omega)]
  have e1 := h (j + 1)
  have e2 := h j
  have e3 := h p
  rw [if_pos rfl] at e1
  rw [if_neg (by omega), if_neg (by omega)] at e2
  by_cases a1 : p = j
  · rw [if_pos a1, if_pos a1, e1]
  · rw [if_neg a1, if_neg a1]
    by_cases a2 : p = j + 1
    · rw [if_pos a2, if_pos (by omega), e2, a2]; rfl
    · rw [if_neg a2, e3, if_neg a2]
      by_cases a3 : j < p ∧ p ≤ i
      · rw [if_pos (by omega), if_pos a3]
      · rw [if_neg (by omega), if_neg a3]
theorem ins_done {c : Int → Int → Int} (h : OrdC c) {a i j : Nat} {ys zs : List Int} (hS : Sd c a i ys) (hz : BubL ys zs i j) (haj : a ≤ j) (hji : j ≤ i) (hasc : ∀ p, a ≤ p → p < i → ys.getD p 0 < ys.getD i 0) (hgt : ∀ p, j ≤ p → p < i → ltC c (ys.getD i 0) (ys.getD p 0)) (hle : j = a ∨ ¬ c (ys.getD i 0) (ys.getD (j - 1) 0) < 0) : Sd c a (i + 1) zs := fun p q hp hpq hq => by
  have hlow : ∀ p, a ≤ p → p < j → ltC c (ys.getD p 0) (ys.getD i 0) := fun p h1 h2 => by
    rcases hle with h3 | h3
    · omega
    · have h4 := ltC_of_not h h3 (hasc (j - 1) (by omega) (by omega))
      by_cases e : p = j - 1
      · rw [e]; exact h4
      · exact ltC_trans h (hS p (j - 1) h1 (by omega) (by omega)) h4
  rw [hz p, hz q]
  by_cases a1 : p = j
  · rw [if_pos a1, if_neg (by omega), if_pos (by omega)]
    exact hgt _ (by omega) (by omega)
  · rw [if_neg a1]
    by_cases a2 : q = j
    · rw [if_pos a2, if_neg (by omega)]
      exact hlow p hp (by omega)
    · rw [if_neg a2]
      by_cases a3 : j < p ∧ p ≤ i
      · rw [if_pos a3, if_pos (by omega)]
        exact hS _ _ (by omega) (by omega) (by omega)
      · rw [if_neg a3]
        by_cases a4 : j < q ∧ q ≤ i
        · rw [if_pos a4]
          exact hS _ _ (by omega) (by omega) (by omega)
        · rw [if_neg a4]
          exact hS _ _ (by omega) (by omega) (by omega)
theorem bubL_seg {xs zs : List Int} {a b i j : Nat} (hz : BubL xs zs i j) (hp : zs.Perm xs) (haj : a ≤ j) (hji : j ≤ i) (hib : i < b) : SegP a b xs zs := ⟨hp, fun p hp => by
  rw [hz p, if_neg (by omega), if_neg (by omega)]⟩
/-! ### Rotations -/
theorem srt_perm (c : Int → Int → Int) (a b : Nat) (xs : List Int) : (srt c a b xs).Perm xs := by
  unfold srt
  split
  · rename_i h; exact (Classical.choose_spec h).1.perm
  · exact .refl _
theorem srt_len (c : Int → Int → Int) (a b : Nat) (xs : List Int) : (srt c a b xs).length = xs.length := (srt_perm c a b xs).length_eq
/-! ### Blocks -/
def iotaL (n : Nat) : List Int := (List.range n).map fun k : Nat => (k : Int)
theorem iotaL_len (n : Nat) : (iotaL n).length = n := by simp [iotaL]
theorem iotaL_get {n i : Nat} (h : i < n) : (iotaL n).getD i 0 = (i : Int) := by simp [iotaL, List.getD, h]
theorem iotaL_mem {n : Nat} {v : Int} (h : v ∈ iotaL n) : 0 ≤ v ∧ v < n := by
  simp only [iotaL, List.mem_map, List.mem_range] at h
  obtain ⟨k, h1, rfl⟩ := h
  omega
theorem iotaL_suc (n : Nat) : iotaL (n + 1) = iotaL n ++ [(n : Int)] := by simp [iotaL, List.range_succ]
theorem natadd (a b : Nat) : (a : Int) + (b : Int) = ((a + b : Nat) : Int) := rfl
theorem natadd1 (a : Nat) : (a : Int) + 1 = ((a + 1 : Nat) : Int) := rfl
theorem natsub {a b : Nat} (h : b ≤ a) : (a : Int) - (b : Int) = ((a - b : Nat) : Int) := by omega
theorem natsub1 {a : Nat} (h : 1 ≤ a) : (a : Int) - 1 = ((a - 1 : Nat) : Int) := by omega
theorem tn1 (j : Nat) : ((j : Int) - 1).toNat = j - 1 := by omega
theorem natmul2 (a : Nat) : 2 * (a : Int) = ((2 * a : Nat) : Int) := by omega
theorem natmul2' (a : Nat) : (a : Int) * 2 = ((2 * a : Nat) : Int) := by omega
theorem wU64 {n : Int} (h1 : 0 ≤ n) (h2 : n ≤ 18446744073709551615) : IntKind.u64.wrap n = n := by
  simp only [IntKind.wrap, IntKind.bits, IntKind.signed]; simp; omega
theorem hfd (n : Nat) : ((n : Int)).fdiv (2 ^ (min (Int.toNat 1) IntKind.u64.bits)) = ((n / 2 : Nat) : Int) := by
  have e : (2 : Int) ^ (min (Int.toNat 1) IntKind.u64.bits) = 2 := by decide
  rw [e, Int.fdiv_eq_ediv_of_nonneg _ (by omega)]
  omega
structure CmpOk (c : Int → Int → Int) (N : Int) (fn : D) : Prop where
  ord : OrdC c
  does : Does Pr (fun p : Int × Int => [i64D p.1, i64D p.2]) (fun p => (0 ≤ p.1 ∧ p.1 < N) ∧ 0 ≤ p.2 ∧ p.2 < N) (fun p => i64D (c p.1 p.2)) fn
def Rng (N : Int) (xs : List Int) : Prop := ∀ v ∈ xs, 0 ≤ v ∧ v < N
theorem Rng.get {N : Int} {xs : List Int} (h : Rng N xs) {i : Nat} (hi : i < xs.length) : 0 ≤ xs.getD i 0 ∧ xs.getD i 0 < N := h _ (getD_mem' hi)
theorem Rng.perm {N : Int} {xs ys : List Int} (h : Rng N xs) (hp : ys.Perm xs) : Rng N ys := fun v hv => h v (hp.mem_iff.1 hv)



structure InsP (a b : Nat) (xs : List Int) : Prop where
  ab : a ≤ b
  bl : b ≤ xs.length
  asc : ∀ p q, a ≤ p → p < q → q < b → xs.getD p 0 < xs.getD q 0

noncomputable abbrev s_slices_insertionSortCmpFunc_int : Spec (List Int × Nat × Nat × D × (Int → Int → Int) × Int) where
  args := fun x => [.own 0, .val (.int .i64 ((x.2.1 : Nat) : Int)), .val (.int .i64 ((x.2.2.1 : Nat) : Int)), x.2.2.2.1]
  pre := fun x => InsP x.2.1 x.2.2.1 x.1 ∧ CmpOk x.2.2.2.2.1 x.2.2.2.2.2 x.2.2.2.1 ∧ Rng x.2.2.2.2.2 x.1 ∧ x.1.length ≤ 1048576
  obs := fun x => [⟨3, 1, false, i64s x.1⟩]
  out := fun x => [⟨3, 1, false, i64s (srt x.2.2.2.2.1 x.2.1 x.2.2.1 x.1)⟩]
  res := fun x => .tup []

set_option maxRecDepth 20000 in
set_option maxHeartbeats 8000000 in
theorem ok_slices_insertionSortCmpFunc_int : FnOk Pr 106 s_slices_insertionSortCmpFunc_int := by
 refine fn_ok 4 1 T0_ok Go.Proofs.Tryz.func106 rfl (enters_of Go.Proofs.Tryz.func106 rfl rfl) (fun _ => rfl) (fun _ => rfl) (fun _ => rfl) ?_
 rintro ⟨xs, a, b, fn, c, N⟩ ⟨hI, hC, hR, hl⟩ C hP hN hm hG
 change awp C _ _ ⟨[(0, .own 0), (1, .val (.int .i64 ((a : Nat) : Int))), (2, .val (.int .i64 ((b : Nat) : Int))), (3, fn)], [(0, ⟨3, 1, false, i64s xs⟩)], 1⟩
 simp only at hI hC hR hl
 have hab := hI.ab
 have hbl := hI.bl
 have xn1 := And.intro @i64s_set (And.intro @tn1 (And.intro @natadd (And.intro @natadd1 (And.intro @natsub (And.intro @natsub1 (And.intro @natmul2 (And.intro @natmul2' (And.intro @wU64 (@hfd)))))))))
 refine awp_seq ?_
 refine r1 T0_ok hP hm hN ?_
 iterate 3 refine g1 ?_
 refine awp_block ?_
 refine awp_loop (fun n st => ∃ (i : Nat) (ys : List Int), a + 1 ≤ i ∧ (i ≤ b ∨ i = a + 1) ∧ (i = a + 1 → ys = xs) ∧ SegP a i xs ys ∧ Sd c a i ys ∧ n = b - i ∧ st = ⟨[(8, .val (.int .i64 ((i : Nat) : Int))), (0, .own 0), (1, .val (.int .i64 ((a : Nat) : Int))), (2, .val (.int .i64 ((b : Nat) : Int))), (3, fn)], [(0, ⟨3, 1, false, i64s ys⟩)], 1⟩) (b - (a + 1)) ⟨_, weak_sl (sub_cons rfl (sub_cons rfl (sub_cons rfl (sub_cons rfl (sub_cons rfl (sub_nil)))))), a + 1, xs, Nat.le_refl _, .inr rfl, fun _ => rfl, .rfl', fun i j a1 a2 a3 => by omega, rfl, rfl⟩ ?_
 rintro n st ⟨i, ys, hi1, hi2, hi3, hsg, hsd, hn, rfl⟩
 have hyl := hsg.len
 refine awp_seq ?_
 refine awp_seq ?_
 refine r1 T0_ok hP hm hN ?_
 iterate 3 refine g1 ?_
 refine awp_cond rfl (fun hc0 => ?_) (fun hc0 => ?_)
 ·
  have hlti : i < b := by simpa using hc0
  refine awp_skip ?_
  refine awp_seq ?_
  refine awp_block ?_
  refine awp_seq ?_
  refine r1 T0_ok hP hm hN ?_
  iterate 2 refine g1 ?_
  refine awp_block ?_
  refine awp_loop (fun n st => ∃ (j : Nat) (zs : List Int), a ≤ j ∧ j ≤ i ∧ BubL ys zs i j ∧ zs.Perm ys ∧ (∀ p, j ≤ p → p < i → ltC c (ys.getD i 0) (ys.getD p 0)) ∧ n = j ∧ st = ⟨[(9, .val (.int .i64 ((j : Nat) : Int))), (8, .val (.int .i64 ((i : Nat) : Int))), (0, .own 0), (1, .val (.int .i64 ((a : Nat) : Int))), (2, .val (.int .i64 ((b : Nat) : Int))), (3, fn)], [(0, ⟨3, 1, false, i64s zs⟩)], 1⟩) i ⟨_, weak_sl (sub_cons rfl (sub_cons rfl (sub_cons rfl (sub_cons rfl (sub_cons rfl (sub_cons rfl (sub_nil))))))), i, ys, by omega, Nat.le_refl _, bubL_0 ys i, .refl _, fun p h1 h2 => by omega, rfl, rfl⟩ ?_
  rintro n st ⟨j, zs, haj, hji, hz, hzp, hgt, hn2, rfl⟩
  have hzl := hzp.length_eq
  have hrz : Rng N zs := (hR.perm hsg.perm).perm hzp
  have hzj : zs.getD j 0 = ys.getD i 0 := by rw [hz j, if_pos rfl]
  have hzj1 : zs.getD (j - 1) 0 = ys.getD (j - 1) 0 ∨ j = 0 := by
    rcases Nat.eq_zero_or_pos j with h | h
    · exact .inr h
    · left; rw [hz (j - 1), if_neg (by omega), if_neg (by omega)]
  have hasi : ∀ p, a ≤ p → p < i → ys.getD p 0 < ys.getD i 0 := fun p h1 h2 => by
    obtain ⟨q, q1, q2, q3⟩ := hsg.mem (by omega) (by omega) h1 h2
    rw [q3, hsg.out i (.inr (Nat.le_refl _))]
    exact hI.asc q i q1 q2 hlti
  refine awp_seq ?_
  refine awp_seq ?_
  refine awp_draw T0_ok hP hm hN Pr_mix [0, 1, 2, 3, 4, 5, 6, 7, 8, 9, 10, 11] [14] _ rfl (by rfl) ?_
  iterate 4 refine d1 T0_ok ?_
  iterate 3 refine dg1 T0_ok ?_
  refine dg1 T0_ok ?_ (hs := by intro hb; simp +decide only [hb, gd_tt, gd_ff, beq_self_eq_true, Bool.true_and, beq_true]; exact ⟨_, by first | rfl | exact astep_load_r (by rfl) (by rfl) (by exact i64s_get _ _ (by omega)) (by rfl) | exact astep_load_r (by rfl) (by rfl) (by first | exact bks_get _ _ (by omega) | exact pls_get _ _ (by omega) | exact ints_get _ _ _ (by omega) | exact boolD_get _ _ (by omega) | exact i64ss_get _ _ (by omega) | assumption) (by rfl) | exact astep_store_p (by rfl) (by rfl) (by rfl) (by rfl) (by exact i64s_get _ _ (by omega)), by exact ⟨rfl, by omega, by (try simp only [List.length_map]); omega⟩⟩)
  iterate 4 refine dg1 T0_ok ?_
  refine dg1 T0_ok ?_ (hs := by intro hb; simp +decide only [hb, gd_tt, gd_ff, beq_self_eq_true, Bool.true_and, beq_true]; exact ⟨_, by first | rfl | exact astep_load_r (by rfl) (by rfl) (by exact i64s_get _ _ (by omega)) (by rfl) | exact astep_load_r (by rfl) (by rfl) (by first | exact bks_get _ _ (by omega) | exact pls_get _ _ (by omega) | exact ints_get _ _ _ (by omega) | exact boolD_get _ _ (by omega) | exact i64ss_get _ _ (by omega) | assumption) (by rfl) | exact astep_store_p (by rfl) (by rfl) (by rfl) (by rfl) (by exact i64s_get _ _ (by omega)), by exact ⟨rfl, (by simp at hb; omega), by (try simp only [List.length_map]); omega⟩⟩)
  refine dg1 T0_ok ?_
  refine dgp1 ?_ (hr := by intro hb; simp +decide only [hb, gd_tt, gd_ff, beq_self_eq_true, Bool.true_and, beq_true]; exact ⟨_, OpRel.does hC.does (zs.getD j 0, zs.getD (j - 1) 0) ⟨hrz.get (by omega), hrz.get (by omega)⟩ rfl rfl rfl rfl rfl rfl, rfl, rfl, rfl⟩)
  refine dg1 T0_ok ?_
  refine d1 T0_ok ?_
  refine dreg_nil ?_
  refine awp_cond rfl (fun hc1 => ?_) (fun hc1 => ?_)
  ·
   simp only [Bool.and_eq_true, decide_eq_true_eq] at hc1
   have hjp : a < j := by omega
   have hcj : c (ys.getD i 0) (ys.getD (j - 1) 0) < 0 := by
     have h := hc1.2
     rw [hzj, hzj1.resolve_right (by omega)] at h
     exact h
   have hsw : swp zs j (j - 1) = (zs.set j (zs.getD (j - 1) 0)).set (j - 1) (zs.getD j 0) := rfl
   have hb2 : BubL ys (swp zs j (j - 1)) i (j - 1) := by
     obtain ⟨j', rfl⟩ : ∃ j', j = j' + 1 := ⟨j - 1, by omega⟩
     exact bubL_step hz hji (by omega)
   have hgt2 : ∀ p, j - 1 ≤ p → p < i → ltC c (ys.getD i 0) (ys.getD p 0) := fun p h1 h2 => by
     by_cases e : p = j - 1
     · rw [e]; exact .inl hcj
     · exact hgt p (by omega) h2
   refine awp_skip ?_
   refine awp_seq ?_
   refine awp_block ?_
   refine awp_draw T0_ok hP hm hN Pr_mix [] [15, 16, 17] _ rfl (by rfl) ?_
   iterate 8 refine d1 T0_ok ?_
   refine dx1 T0_ok ?_
   refine dx1 T0_ok ?_
   iterate 2 refine d1 T0_ok ?_
   refine dx1 T0_ok ?_
   refine dx1 T0_ok ?_
   refine dx1 T0_ok ?_
   refine dp1 ?_ (oprel_astep T0_ok (by first | rfl | exact astep_load_p (by rfl) (by rfl) (by rfl) (by exact i64s_get _ _ (by omega)) (by rfl) | exact astep_store_p (by rfl) (by rfl) (by rfl) (by rfl) (by exact i64s_get _ _ (by first | omega | (simp only [List.length_set]; omega)))) rfl (by first | trivial | rfl | exact ⟨rfl, rfl⟩ | exact ⟨rfl, rfl, fun _ => rfl, Nat.le_of_ble_eq_true rfl, .inl rfl⟩ | exact ⟨rfl, rfl, fun h => (nomatch h), Nat.le_of_ble_eq_true rfl, .inl rfl⟩ | exact ⟨rfl, rfl, fun _ => rfl, Nat.le_of_ble_eq_true rfl, .inr rfl⟩ | exact ⟨rfl, rfl, fun h => (nomatch h), Nat.le_of_ble_eq_true rfl, .inr rfl⟩ | omega | exact ⟨rfl, by (repeat (first | exact fm_nil | refine fm_cons ⟨rfl, rfl⟩ ?_)), Nat.le_of_ble_eq_true rfl, Nat.le_of_ble_eq_true rfl⟩ | (refine ⟨?_, ?_, ?_, ?_, ?_, ?_, ?_⟩ <;> first | omega | exact Nat.le_of_ble_eq_true rfl) | exact ⟨rfl, by omega, by (try simp only [List.length_map, List.length_set]); omega⟩ | exact ⟨rfl, by omega, by simp only [Int.toNat_natCast]; omega, by omega, Nat.le_of_ble_eq_true rfl, rfl⟩))
   refine dp1 ?_ (oprel_astep T0_ok (by first | rfl | exact astep_load_p (by rfl) (by rfl) (by rfl) (by exact i64s_get _ _ (by omega)) (by rfl) | exact astep_store_p (by rfl) (by rfl) (by rfl) (by rfl) (by exact i64s_get _ _ (by first | omega | (simp only [List.length_set]; omega)))) rfl (by first | trivial | rfl | exact ⟨rfl, rfl⟩ | exact ⟨rfl, rfl, fun _ => rfl, Nat.le_of_ble_eq_true rfl, .inl rfl⟩ | exact ⟨rfl, rfl, fun h => (nomatch h), Nat.le_of_ble_eq_true rfl, .inl rfl⟩ | exact ⟨rfl, rfl, fun _ => rfl, Nat.le_of_ble_eq_true rfl, .inr rfl⟩ | exact ⟨rfl, rfl, fun h => (nomatch h), Nat.le_of_ble_eq_true rfl, .inr rfl⟩ | omega | exact ⟨rfl, by (repeat (first | exact fm_nil | refine fm_cons ⟨rfl, rfl⟩ ?_)), Nat.le_of_ble_eq_true rfl, Nat.le_of_ble_eq_true rfl⟩ | (refine ⟨?_, ?_, ?_, ?_, ?_, ?_, ?_⟩ <;> first | omega | exact Nat.le_of_ble_eq_true rfl) | exact ⟨rfl, by omega, by (try simp only [List.length_map, List.length_set]); omega⟩ | exact ⟨rfl, by omega, by simp only [Int.toNat_natCast]; omega, by omega, Nat.le_of_ble_eq_true rfl, rfl⟩))
   refine dp1 ?_ (oprel_astep T0_ok (by first | rfl | exact astep_load_p (by rfl) (by rfl) (by rfl) (by exact i64s_get _ _ (by omega)) (by rfl) | exact astep_store_p (by rfl) (by rfl) (by rfl) (by rfl) (by exact i64s_get _ _ (by first | omega | (simp only [List.length_set]; omega)))) rfl (by first | trivial | rfl | exact ⟨rfl, rfl⟩ | exact ⟨rfl, rfl, fun _ => rfl, Nat.le_of_ble_eq_true rfl, .inl rfl⟩ | exact ⟨rfl, rfl, fun h => (nomatch h), Nat.le_of_ble_eq_true rfl, .inl rfl⟩ | exact ⟨rfl, rfl, fun _ => rfl, Nat.le_of_ble_eq_true rfl, .inr rfl⟩ | exact ⟨rfl, rfl, fun h => (nomatch h), Nat.le_of_ble_eq_true rfl, .inr rfl⟩ | omega | exact ⟨rfl, by (repeat (first | exact fm_nil | refine fm_cons ⟨rfl, rfl⟩ ?_)), Nat.le_of_ble_eq_true rfl, Nat.le_of_ble_eq_true rfl⟩ | (refine ⟨?_, ?_, ?_, ?_, ?_, ?_, ?_⟩ <;> first | omega | exact Nat.le_of_ble_eq_true rfl) | exact ⟨rfl, by omega, by (try simp only [List.length_map, List.length_set]); omega⟩ | exact ⟨rfl, by omega, by simp only [Int.toNat_natCast]; omega, by omega, Nat.le_of_ble_eq_true rfl, rfl⟩))
   refine dreg_nil ?_
   refine r1 T0_ok hP hm hN ?_
   iterate 3 refine g1 ?_
   refine ⟨j - 1, _, by omega, (by rw [← hsw]; exact weak_sl (sub_cons rfl (sub_cons rfl (sub_cons rfl (sub_cons rfl (sub_cons rfl (sub_cons rfl (sub_nil)))))))), j - 1, swp zs j (j - 1), by omega, by omega, hb2, (swp_perm (by omega) (by omega)).trans hzp, hgt2, rfl, rfl⟩
  ·
   have hstop : j = a ∨ ¬ c (ys.getD i 0) (ys.getD (j - 1) 0) < 0 := by
     rcases Nat.eq_or_lt_of_le haj with h | h
     · exact .inl h.symm
     · right
       intro hlt
       rw [← hzj, ← hzj1.resolve_right (by omega)] at hlt
       have : decide ((j : Int) > (a : Int)) = true := by simp; omega
       rw [this, Bool.true_and] at hc1
       simp only [decide_eq_false_iff_not] at hc1
       exact hc1 hlt
   have hnew : SegP a (i + 1) xs zs := (hsg.wide (Nat.le_refl _) (Nat.le_succ _)).trans (bubL_seg hz hzp haj hji (Nat.lt_succ_self _))
   refine awp_exit ?_
   repeat refine thenA_exit ?_
   refine blockA_hit ?_
   refine r1 T0_ok hP hm hN ?_
   iterate 3 refine g1 ?_
   refine ⟨b - (i + 1), _, by omega, weak_sl (sub_cons rfl (sub_cons rfl (sub_cons rfl (sub_cons rfl (sub_cons rfl (sub_nil)))))), i + 1, zs, by omega, .inl (by omega), fun h => by omega, hnew, ins_done hC.ord hsd hz haj hji hasi hgt hstop, rfl, rfl⟩
 ·
  have hgei : ¬ i < b := by simpa using hc0
  have hfin : srt c a b xs = ys := by
    refine srt_eq hC.ord hab hbl ?_ (fun p q a1 a2 a3 => hsd p q a1 a2 (by omega))
    rcases hi2 with h | h
    · rw [show b = i by omega]; exact hsg
    · rw [hi3 h]; exact .rfl'
  refine awp_exit ?_
  repeat refine thenA_exit ?_
  refine blockA_hit ?_
  refine fin_mk [] rfl rfl ?_ (by simp only [hfin]; exact objs_cons rfl rfl rfl rfl rfl (.inl rfl) objs_nil) (by decide)
  rfl

def keyB (b : Bk) : List Int := [b.cls, b.m0, b.m1, b.m2, b.vol]
theorem cmpU_key (a b : Bk) : cmpU a b = cmp3 (keyB a) (keyB b) := by
  have e1 : fldS 1 = 1 := by decide
  have e2 : fldS 2 = 2 := by decide
  have e3 : fldS 3 = 3 := by decide
  simp only [cmpU, usualO, cmpBy, e1, e2, e3, cmpF, keyB, marks]
  simp only [show ¬ ((1 : Int) < 0) by omega, show ¬ ((2 : Int) < 0) by omega, show ¬ ((3 : Int) < 0) by omega, if_false, beq_self_eq_true, if_true, show ((2 : Int) == 1) = false by decide, show ((3 : Int) == 1) = false by decide, show ((3 : Int) == 2) = false by decide, Bool.false_eq_true, cmp3]
  have h0 := cmpI_cases a.cls b.cls
  have h1 := cmpI_cases a.m0 b.m0
  have h2 := cmpI_cases a.m1 b.m1
  have h3 := cmpI_cases a.m2 b.m2
  have h4 := cmpI_cases a.vol b.vol
  rcases h0 with h0 | h0 | h0 <;> rcases h1 with h1 | h1 | h1 <;> rcases h2 with h2 | h2 | h2 <;> rcases h3 with h3 | h3 | h3 <;> rcases h4 with h4 | h4 | h4 <;> simp [h0, h1, h2, h3, h4]
theorem cmp3_anti : ∀ xs ys : List Int, xs.length = ys.length → cmp3 ys xs = -cmp3 xs ys
  | [], [], _ => rfl
  | x :: xs, y :: ys, h => by
    have ih := cmp3_anti xs ys (by simpa using h)
    unfold cmp3
    rcases Int.lt_trichotomy x y with h1 | h1 | h1
    · simp [cmpI, h1, show ¬ y < x by omega]
    · subst h1; simp [cmpI, ih]
    · simp [cmpI, h1, show ¬ x < y by omega]
  | [], _ :: _, h => by simp at h
  | _ :: _, [], h => by simp at h
theorem cmp3_trans : ∀ xs ys zs : List Int, xs.length = ys.length → ys.length = zs.length → cmp3 xs ys ≤ 0 → cmp3 ys zs ≤ 0 → cmp3 xs zs ≤ 0
  | [], [], [], _, _, _, _ => by decide
  | x :: xs, y :: ys, z :: zs, h1, h2, h3, h4 => by
    have ih := cmp3_trans xs ys zs (by simpa using h1) (by simpa using h2)
    unfold cmp3 at h3 h4 ⊢
    unfold cmpI at h3 h4 ⊢
    rcases Int.lt_trichotomy x y with a | a | a <;> rcases Int.lt_trichotomy y z with b | b | b
    · simp [show x < z by omega]
    · subst b; simp [a]
    · simp [b, show ¬ y < z by omega] at h4
    · subst a; simp [b]
    · subst a; subst b; simp at h3 h4 ⊢; exact ih h3 h4
    · simp [b, show ¬ y < z by omega] at h4
    all_goals simp [a, show ¬ x < y by omega] at h3
  | [], [], _ :: _, _, h, _, _ => by simp at h
  | [], _ :: _, _, h, _, _, _ => by simp at h
  | _ :: _, [], _, h, _, _, _ => by simp at h
  | _ :: _, _ :: _, [], _, h, _, _ => by simp at h
theorem cmpU_anti (a b : Bk) : cmpU b a = -cmpU a b := by rw [cmpU_key, cmpU_key]; exact cmp3_anti _ _ rfl
theorem cmpU_trans {a b c : Bk} (h1 : cmpU a b ≤ 0) (h2 : cmpU b c ≤ 0) : cmpU a c ≤ 0 := by
  rw [cmpU_key] at *
  exact cmp3_trans (keyB a) (keyB b) (keyB c) rfl rfl h1 h2

theorem i64s_app2 (xs ys : List Int) : i64s (xs ++ ys) = i64s xs ++ i64s ys := by simp
theorem rng_iota {n : Nat} {N : Int} (h : (n : Int) ≤ N) {ys : List Int} (hp : ys.Perm (iotaL n)) : Rng N ys := fun v hv => by
  have := iotaL_mem (hp.mem_iff.1 hv)
  omega

noncomputable abbrev s_slices_stableCmpFunc_int : Spec (Nat × D × (Int → Int → Int) × Int) where
  args := fun x => [.own 0, .val (.int .i64 ((x.1 : Nat) : Int)), x.2.1]
  pre := fun x => CmpOk x.2.2.1 x.2.2.2 x.2.1 ∧ x.1 ≤ 19 ∧ (x.1 : Int) ≤ x.2.2.2
  obs := fun x => [⟨3, 1, false, i64s (iotaL x.1)⟩]
  out := fun x => [⟨3, 1, false, i64s (srt x.2.2.1 0 x.1 (iotaL x.1))⟩]
  res := fun x => .tup []

set_option maxRecDepth 20000 in
set_option maxHeartbeats 8000000 in
theorem ok_slices_stableCmpFunc_int : FnOk Pr 85 s_slices_stableCmpFunc_int := by
 refine fn_ok 3 1 T0_ok Go.Proofs.Tryz.func85 rfl (enters_of Go.Proofs.Tryz.func85 rfl rfl) (fun _ => rfl) (fun _ => rfl) (fun _ => rfl) ?_
 rintro ⟨n, fn, c, N⟩ ⟨hC, hn60, hnN⟩ C hP hN hm hG
 change awp C _ _ ⟨[(0, .own 0), (1, .val (.int .i64 ((n : Nat) : Int))), (2, fn)], [(0, ⟨3, 1, false, i64s (iotaL n)⟩)], 1⟩
 simp only at hC hn60 hnN
 have hil := iotaL_len n
 have hri := rng_iota hnN (List.Perm.refl (iotaL n))
 have hI : InsP 0 n (iotaL n) := ⟨Nat.zero_le _, by omega, fun p q _ h1 h2 => by rw [iotaL_get (by omega), iotaL_get h2]; omega⟩
 have xn1 := And.intro @i64s_set (And.intro @tn1 (And.intro @natadd (And.intro @natadd1 (And.intro @natsub (And.intro @natsub1 (And.intro @natmul2 (And.intro @natmul2' (And.intro @wU64 (@hfd)))))))))
 refine awp_seq ?_
 refine r1 T0_ok hP hm hN ?_
 refine g1 ?_
 refine awp_seq ?_
 refine r1 T0_ok hP hm hN ?_
 iterate 3 refine g1 ?_
 refine awp_seq ?_
 refine awp_block ?_
 refine awp_loop (fun r st => r = 1 ∧ st = ⟨[(6, .val (.int .i64 20)), (7, .val (.int .i64 0)), (8, .val (.int .i64 20)), (0, .own 0), (1, .val (.int .i64 ((n : Nat) : Int))), (2, fn)], [(0, ⟨3, 1, false, i64s (iotaL n)⟩)], 1⟩) 1 ⟨_, weak_sl (sub_cons rfl (sub_cons rfl (sub_cons rfl (sub_cons rfl (sub_cons rfl (sub_cons rfl (sub_nil))))))), rfl, rfl⟩ ?_
 rintro r st ⟨-, rfl⟩
 refine awp_seq ?_
 refine awp_seq ?_
 refine r1 T0_ok hP hm hN ?_
 iterate 3 refine g1 ?_
 refine awp_cond rfl (fun hc0 => ?_) (fun hc0 => ?_)
 ·
  exfalso
  have h := hc0
  simp at h
  omega
 ·
  refine awp_exit ?_
  repeat refine thenA_exit ?_
  refine blockA_hit ?_
  refine awp_seq ?_
  refine r1 T0_ok hP hm hN ?_
  iterate 4 refine g1 ?_
  refine gc1 ?_ (call1 ok_slices_insertionSortCmpFunc_int (iotaL n, 0, n, fn, c, N) [0] (hargs := (by (try dsimp only); exact args_cons (arga_own rfl) (args_cons arga_val (args_cons arga_val (args_cons (arga_does hC.does) args_nil))))) (hpre := by (try dsimp only); exact ⟨hI, hC, hri, by omega⟩))
  refine awp_block ?_
  refine awp_loop (fun r st => r = 1 ∧ st = ⟨[(6, .val (.int .i64 20)), (0, .own 0), (1, .val (.int .i64 ((n : Nat) : Int))), (2, fn)], [(0, ⟨3, 1, false, i64s (srt c 0 n (iotaL n))⟩)], 1⟩) 1 ⟨_, weak_sl (sub_cons rfl (sub_cons rfl (sub_cons rfl (sub_cons rfl (sub_nil))))), rfl, rfl⟩ ?_
  rintro r st ⟨-, rfl⟩
  refine awp_seq ?_
  refine awp_seq ?_
  refine r1 T0_ok hP hm hN ?_
  iterate 3 refine g1 ?_
  refine awp_cond rfl (fun hc1 => ?_) (fun hc1 => ?_)
  ·
   exfalso
   have h := hc1
   simp at h
   omega
  ·
   refine awp_exit ?_
   repeat refine thenA_exit ?_
   refine blockA_hit ?_
   refine fin_mk [] rfl rfl ?_ (objs_cons rfl rfl rfl rfl rfl (.inl rfl) objs_nil) (by decide)
   rfl


noncomputable abbrev s_slices_SortStableFunc_int_int : Spec (Nat × D × (Int → Int → Int) × Int) where
  args := fun x => [.own 0, x.2.1]
  pre := fun x => CmpOk x.2.2.1 x.2.2.2 x.2.1 ∧ x.1 ≤ 19 ∧ (x.1 : Int) ≤ x.2.2.2
  obs := fun x => [⟨3, 1, false, i64s (iotaL x.1)⟩]
  out := fun x => [⟨3, 1, false, i64s (srt x.2.2.1 0 x.1 (iotaL x.1))⟩]
  res := fun x => .tup []

set_option maxRecDepth 20000 in
set_option maxHeartbeats 1000000 in
theorem ok_slices_SortStableFunc_int_int : FnOk Pr 62 s_slices_SortStableFunc_int_int := by
 refine fn_ok 2 1 T0_ok Go.Proofs.Tryz.func62 rfl (enters_of Go.Proofs.Tryz.func62 rfl rfl) (fun _ => rfl) (fun _ => rfl) (fun _ => rfl) ?_
 rintro ⟨n, fn, c, N⟩ ⟨hC, hn60, hnN⟩ C hP hN hm hG
 change awp C _ _ ⟨[(0, .own 0), (1, fn)], [(0, ⟨3, 1, false, i64s (iotaL n)⟩)], 1⟩
 simp only at hC hn60 hnN
 have xn1 := @iotaL_len
 refine r1 T0_ok hP hm hN ?_
 iterate 4 refine g1 ?_
 refine gc1 ?_ (call1 ok_slices_stableCmpFunc_int (n, fn, c, N) [0] (hargs := (by (try dsimp only); exact args_cons (arga_own rfl) (args_cons arga_val (args_cons (arga_does hC.does) args_nil)))) (hpre := by (try dsimp only); exact ⟨hC, hn60, hnN⟩))
 refine fin_mk [] rfl rfl ?_ (objs_cons rfl rfl rfl rfl rfl (.inl rfl) objs_nil) (by decide)
 rfl

noncomputable abbrev s_I_upTo : Spec Nat where
  args := fun n => [.val (.int .i64 ((n : Nat) : Int))]
  pre := fun n => n ≤ 1048576
  new := fun n => [⟨3, 1, false, i64s (iotaL n)⟩]
  res := fun n => .own 0

set_option maxRecDepth 20000 in
set_option maxHeartbeats 1000000 in
theorem ok_I_upTo : FnOk Pr 61 s_I_upTo := by
 refine fn_ok 1 0 T0_ok Go.Proofs.Tryz.func61 rfl (enters_of Go.Proofs.Tryz.func61 rfl rfl) (fun _ => rfl) (fun _ => rfl) (fun _ => rfl) ?_
 rintro k hn C hP hN hm hG
 change awp C _ _ ⟨[(0, .val (.int .i64 ((k : Nat) : Int)))], [], 0⟩
 have hn : k ≤ 1048576 := hn
 refine awp_seq ?_
 refine r1 T0_ok hP hm hN ?_
 refine g1 ?_
 refine awp_seq ?_
 refine r1 T0_ok hP hm hN ?_
 refine g1 ?_
 refine awp_seq ?_
 refine awp_seq ?_
 refine r1 T0_ok hP hm hN ?_
 iterate 2 refine g1 ?_
 refine awp_block ?_
 refine awp_loop (fun n st => ∃ i : Nat, i ≤ k ∧ n = k - i ∧ st = ⟨[(6, .val (.int .i64 ((i : Nat) : Int))), (5, .val (.int .i64 ((k : Nat) : Int))), (3, .own 0)], [(0, ⟨3, 1, false, i64s (iotaL i)⟩)], 1⟩) (k) ⟨_, (by exact Weak.trans (weak_nil 3 3 1 rfl) (weak_sl (sub_cons rfl (sub_cons rfl (sub_cons rfl (sub_nil)))))), 0, by omega, rfl, rfl⟩ ?_
 rintro n st ⟨i, hii, hni, rfl⟩
 have hil := iotaL_len i
 refine awp_seq ?_
 refine r1 T0_ok hP hm hN ?_
 refine g1 ?_
 refine awp_seq ?_
 refine awp_cond rfl (fun hc0 => ?_) (fun hc0 => ?_)
 ·
  have hlti : i < k := by simpa using hc0
  refine awp_skip ?_
  refine awp_seq ?_
  refine awp_block ?_
  refine awp_seq ?_
  refine r1 T0_ok hP hm hN ?_
  iterate 2 refine g1 ?_
  refine r1 T0_ok hP hm hN ?_
  iterate 3 refine g1 ?_
  refine ga1 ?_
  refine g1 ?_
  refine r1 T0_ok hP hm hN ?_
  iterate 2 refine g1 ?_
  refine ⟨k - (i + 1), _, by omega, (by rw [iotaL_suc, i64s_app2]; exact Weak.trans (weak_drop 1) (Weak.trans (weak_nx (nx' := 1) (by omega) (by rfl)) (weak_sl (sub_cons rfl (sub_cons rfl (sub_cons rfl (sub_nil))))))), i + 1, by omega, rfl, rfl⟩
 ·
  have hgei : ¬ i < k := by simpa using hc0
  have heqi : i = k := by omega
  rw [heqi]
  refine awp_exit ?_
  repeat refine thenA_exit ?_
  refine blockA_hit ?_
  refine awp_seq ?_
  refine r1 T0_ok hP hm hN ?_
  iterate 2 refine g1 ?_
  refine awp_ret ?_
  refine fin_mk [0] rfl rfl ?_ (objs_cons rfl rfl rfl rfl rfl (.inl rfl) objs_nil) (by decide)
  rfl

def cP (bs : List Bk) (x y : Int) : Int := cmpU (bs.getD x.toNat bk0) (bs.getD y.toNat bk0)
theorem ord_cP (bs : List Bk) : OrdC (cP bs) := ⟨fun x y => cmpU_anti _ _, fun x y z h1 h2 => cmpU_trans h1 h2⟩

noncomputable abbrev s_I_sortedPlaces_1 : Spec ((Int × Int) × List Bk) where
  args := fun x => [i64D x.1.1, i64D x.1.2, .rptr 1 [[.sl 8 (bks x.2)]] 0 0]
  pre := fun x => ((0 ≤ x.1.1 ∧ x.1.1 < x.2.length) ∧ 0 ≤ x.1.2 ∧ x.1.2 < x.2.length) ∧ x.2.length ≤ 1048576
  res := fun x => i64D (cP x.2 x.1.1 x.1.2)

set_option maxRecDepth 20000 in
set_option maxHeartbeats 1000000 in
theorem ok_I_sortedPlaces_1 : FnOk Pr 63 s_I_sortedPlaces_1 := by
 refine fn_ok 3 0 T0_ok Go.Proofs.Tryz.func63 rfl (enters_of Go.Proofs.Tryz.func63 rfl rfl) (fun _ => rfl) (fun _ => rfl) (fun _ => rfl) ?_
 rintro ⟨⟨x, y⟩, bs⟩ ⟨⟨⟨h1, h2⟩, h3, h4⟩, hl⟩ C hP hN hm hG
 change awp C _ _ ⟨[(0, i64D x), (1, i64D y), (2, .rptr 1 [[.sl 8 (bks bs)]] 0 0)], [], 0⟩
 simp only at h1 h2 h3 h4 hl
 refine awp_seq ?_
 refine r1 T0_ok hP hm hN ?_
 refine g1 ?_
 refine awp_seq ?_
 refine awp_draw T0_ok hP hm hN Pr_mix [0, 1, 2, 3, 4, 5, 6, 7, 8, 9, 10, 11] [8] _ rfl (by rfl) ?_
 iterate 8 refine d1 T0_ok ?_
 refine dp1 ?_ (call1 ok_I_compare (_, _) [])
 refine d1 T0_ok ?_
 refine dreg_nil ?_
 refine awp_ret ?_
 refine fin_mk [] rfl rfl ?_ trivial (by decide)
 rfl

theorem cmp_places {bs : List Bk} (hl : bs.length ≤ 1048576) : CmpOk (cP bs) bs.length (.clo (.func 63) [.rptr 1 [[.sl 8 (bks bs)]] 0 0]) :=
  ⟨ord_cP bs, 63, [], [.rptr 1 [[.sl 8 (bks bs)]] 0 0], (s_I_sortedPlaces_1).comap (fun x => (x, bs)), rfl, rfl, rfl, ok_I_sortedPlaces_1.comap _, fun _ => rfl, fun _ h => ⟨h, hl⟩, fun _ => rfl, fun _ => rfl, fun _ => rfl, fun _ => rfl⟩
noncomputable def plcL (bs : List Bk) : List Int := srt (cP bs) 0 bs.length (iotaL bs.length)
theorem plcL_len (bs : List Bk) : (plcL bs).length = bs.length := by rw [plcL, srt_len, iotaL_len]

noncomputable abbrev s_I_sortedPlaces : Spec (List Bk) where
  args := fun bs => [.sl 8 (bks bs)]
  pre := fun bs => bs.length ≤ 19
  new := fun bs => [⟨3, 1, false, i64s (plcL bs)⟩]
  res := fun bs => .own 0

set_option maxRecDepth 20000 in
set_option maxHeartbeats 1000000 in
theorem ok_I_sortedPlaces : FnOk Pr 35 s_I_sortedPlaces := by
 refine fn_ok 1 0 T0_ok Go.Proofs.Tryz.func35 rfl (enters_of Go.Proofs.Tryz.func35 rfl rfl) (fun _ => rfl) (fun _ => rfl) (fun _ => rfl) ?_
 rintro bs hl C hP hN hm hG
 change awp C _ _ ⟨[(0, .sl 8 (bks bs))], [], 0⟩
 have hl : bs.length ≤ 19 := hl
 refine awp_seq ?_
 refine r1 T0_ok hP hm hN ?_
 iterate 2 refine g1 ?_
 refine awp_seq ?_
 refine r1 T0_ok hP hm hN ?_
 iterate 2 refine g1 ?_
 refine gc1 ?_ (call1 ok_I_upTo _ [] (hpre := by (try dsimp only); omega))
 refine g1 ?_
 refine awp_seq ?_
 refine r1 T0_ok hP hm hN ?_
 iterate 2 refine g1 ?_
 refine gc1 ?_ (call1 ok_slices_SortStableFunc_int_int (bs.length, .clo (.func 63) [.rptr 1 [[.sl 8 (bks bs)]] 0 0], cP bs, bs.length) [1] (hpre := by (try dsimp only); exact ⟨cmp_places (by omega), hl, Int.le_refl _⟩))
 refine awp_seq ?_
 refine r1 T0_ok hP hm hN ?_
 iterate 2 refine g1 ?_
 refine awp_ret ?_
 refine fin_mk [1] rfl rfl ?_ (objs_cons rfl rfl rfl rfl rfl (.inl rfl) objs_nil) (by decide)
 rfl
end Go.Proofs.YtpdkhlpmiblflaaGreat.Abs

