import Derived.Test.YtjkhgcmdcjdipaaW9
import Derived.Test.YtjkhgcmdcjdipaaAbsE
set_option linter.unusedVariables false
set_option linter.unusedSimpArgs false
namespace Go.Proofs.Ytjkhgcmdcjdipaa.Abs
open Go Go.RowKit
theorem natadd1 (a : Nat) : (a : Int) + 1 = ((a + 1 : Nat) : Int) := rfl
theorem natsub1 {a : Nat} (h : 1 ≤ a) : (a : Int) - 1 = ((a - 1 : Nat) : Int) := by omega
theorem tn1 (j : Nat) : ((j : Int) - 1).toNat = j - 1 := by omega
def swp (xs : List Int) (i j : Nat) : List Int := (xs.set i (xs.getD j 0)).set j (xs.getD i 0)
theorem swp_len (xs : List Int) (i j : Nat) : (swp xs i j).length = xs.length := by simp [swp]
theorem set_getD {f : List Int} {i j : Nat} {v : Int} (h : i < f.length) : (f.set i v).getD j 0 = if j = i then v else f.getD j 0 := by
  by_cases e : j = i
  · subst e; simp [List.getD, h]
  · simp [List.getD, List.getElem?_set, e, Ne.symm e]
theorem swp_get {xs : List Int} {i j : Nat} (hi : i < xs.length) (hj : j < xs.length) (p : Nat) : (swp xs i j).getD p 0 = if p = j then xs.getD i 0 else if p = i then xs.getD j 0 else xs.getD p 0 := by
  rw [swp, set_getD (by simpa using hj), set_getD hi]
theorem swp_perm {xs : List Int} {i j : Nat} (hi : i < xs.length) (hj : j < xs.length) : (swp xs i j).Perm xs := by
  have := List.set_set_perm hi hj
  simpa [swp, List.getD, hi, hj] using this
/-- The one at i has gone to j, those between by one up. -/
def BubL (xs zs : List Int) (i j : Nat) : Prop := ∀ p, zs.getD p 0 = if p = j then xs.getD i 0 else if j < p ∧ p ≤ i then xs.getD (p - 1) 0 else xs.getD p 0
theorem bubL_0 (xs : List Int) (i : Nat) : BubL xs xs i i := fun p => by
  split
  · rename_i h; rw [h]
  · rw [if_neg (by omega)]
theorem bubL_step {xs zs : List Int} {i j : Nat} (h : BubL xs zs i (j + 1)) (hji : j + 1 ≤ i) (hl : i < zs.length) : BubL xs (swp zs (j + 1) j) i j := fun p => by
  rw [swp_get (by omega) (by omega)]
  have e1 := h (j + 1)
  have e2 := h j
  have e3 := h p
  rw [if_pos rfl] at e1
  rw [if_neg (by omega), if_neg (by omega)] at e2
  by_cases a1 : p = j
  · rw [if_pos a1, if_pos a1, e1]
  · rw [if_neg a1, if_neg a1]
    by_cases a2 : p = j + 1
    · rw [if_pos a2, if_pos (by omega), e2, a2]; rfl
    · rw [if_neg a2, e3, if_neg a2]
      by_cases a3 : j < p ∧ p ≤ i
      · rw [if_pos (by omega), if_pos a3]
      · rw [if_neg (by omega), if_neg a3]

theorem eq_of_le : ∀ {l1 l2 : List Int}, l1.Perm l2 → l1.Pairwise (· ≤ ·) → l2.Pairwise (· ≤ ·) → l1 = l2
  | [], l2, p, _, _ => (List.nil_perm.1 p).symm
  | a :: l1, [], p, _, _ => absurd p.length_eq (by simp)
  | a :: l1, b :: l2, p, h1, h2 => by
    obtain ⟨a1, a2⟩ := List.pairwise_cons.1 h1
    obtain ⟨b1, b2⟩ := List.pairwise_cons.1 h2
    have hab : a = b := by
      have ha : a ∈ b :: l2 := p.mem_iff.1 (by simp)
      have hb : b ∈ a :: l1 := p.mem_iff.2 (by simp)
      rcases List.mem_cons.1 ha with e | ha
      · exact e
      · rcases List.mem_cons.1 hb with e | hb
        · exact e.symm
        · have := b1 a ha
          have := a1 b hb
          omega
    subst hab
    rw [eq_of_le (List.Perm.cons_inv p) a2 b2]
noncomputable def sortI (l : List Int) : List Int := l.mergeSort fun x y => decide (x ≤ y)
theorem sortI_le (l : List Int) : (sortI l).Pairwise (· ≤ ·) := by
  have := List.pairwise_mergeSort (le := fun x y : Int => decide (x ≤ y)) (fun a b c h1 h2 => by simp only [decide_eq_true_eq] at *; omega) (fun a b => by simp only [Bool.or_eq_true, decide_eq_true_eq]; omega) l
  exact this.imp (fun h => by simpa using h)
theorem sortI_perm (l : List Int) : (sortI l).Perm l := List.mergeSort_perm l _
theorem sortI_len (l : List Int) : (sortI l).length = l.length := (sortI_perm l).length_eq
theorem sortI_eq {l r : List Int} (hp : r.Perm l) (hs : r.Pairwise (· ≤ ·)) : sortI l = r := eq_of_le ((sortI_perm l).trans hp.symm) (sortI_le l) hs
/-- In order up to i. -/
def UpI (ys : List Int) (i : Nat) : Prop := ∀ p q, p < q → q < i → ys.getD p 0 ≤ ys.getD q 0
theorem UpI.all {ys : List Int} {i : Nat} (h : UpI ys i) (hi : ys.length ≤ i) : ys.Pairwise (· ≤ ·) := by
  rw [List.pairwise_iff_getElem]
  intro p q h1 h2 h3
  have := h p q h3 (by omega)
  simpa [List.getD, h1, h2] using this
theorem upI_ins {ys zs : List Int} {i j : Nat} (hS : UpI ys i) (hz : BubL ys zs i j) (hji : j ≤ i) (hgt : ∀ p, j ≤ p → p < i → ys.getD i 0 < ys.getD p 0) (hstop : j = 0 ∨ ys.getD (j - 1) 0 ≤ ys.getD i 0) : UpI zs (i + 1) := fun p q h1 h2 => by
  rw [hz p, hz q]
  by_cases a1 : p = j
  · rw [if_pos a1, if_neg (by omega), if_pos (by omega)]
    have := hgt (q - 1) (by omega) (by omega)
    omega
  · rw [if_neg a1]
    by_cases a2 : q = j
    · rw [if_neg (by omega), if_pos a2]
      have h3 := hstop.resolve_left (by omega)
      rcases Nat.lt_or_ge p (j - 1) with h4 | h4
      · have := hS p (j - 1) h4 (by omega); omega
      · rw [show p = j - 1 by omega]; exact h3
    · rw [if_neg a2]
      by_cases a3 : j < p ∧ p ≤ i
      · rw [if_pos a3, if_pos (by omega)]
        exact hS _ _ (by omega) (by omega)
      · rw [if_neg a3]
        by_cases a4 : j < q ∧ q ≤ i
        · rw [if_pos a4]
          rcases Nat.lt_or_ge p (q - 1) with h4 | h4
          · exact hS _ _ h4 (by omega)
          · rw [show p = q - 1 by omega]; exact Int.le_refl _
        · rw [if_neg a4]
          exact hS _ _ h1 (by omega)
def isU (xs : List Int) : Prop := ∀ v ∈ xs, 0 ≤ v ∧ v ≤ 255
theorem isU.get {xs : List Int} (h : isU xs) {i : Nat} (hi : i < xs.length) : 0 ≤ xs.getD i 0 ∧ xs.getD i 0 ≤ 255 := h _ (getD_mem' hi)
theorem isU.perm {xs ys : List Int} (h : isU xs) (hp : ys.Perm xs) : isU ys := fun v hv => h v (hp.mem_iff.1 hv)
theorem ints_set (k : IntKind) (xs : List Int) (i : Nat) (v : Int) : (ints k xs).set i [.val (.int k v)] = ints k (xs.set i v) := by simp

noncomputable abbrev s_cmp_Less_byte : Spec (Int × Int) where
  args := fun x => [.val (.int .u8 x.1), .val (.int .u8 x.2)]
  res := fun x => .val (.bool (decide (x.1 < x.2)))

set_option maxRecDepth 20000 in
set_option maxHeartbeats 1000000 in
theorem ok_cmp_Less_byte : FnOk Pr 71 s_cmp_Less_byte := by
 refine fn_ok 2 0 T0_ok Go.Proofs.Try.func71 rfl (enters_of Go.Proofs.Try.func71 rfl rfl) (fun _ => rfl) (fun _ => rfl) (fun _ => rfl) ?_
 rintro ⟨a, b⟩ - C hP hN hm hG
 change awp C _ _ ⟨[(0, .val (.int .u8 a)), (1, .val (.int .u8 b))], [], 0⟩
 refine awp_seq ?_
 refine r1 T0_ok hP hm hN ?_
 refine g1 ?_
 refine awp_seq ?_
 refine r1 T0_ok hP hm hN ?_
 refine g1 ?_
 refine gc1 ?_ (call1 ok_cmp_isNaN_byte _ [])
 refine g1 ?_
 iterate 3 (first | refine gn1 ?_ | refine gu1 ?_)
 iterate 2 refine g1 ?_
 iterate 3 refine gy1 ?_
 iterate 2 refine g1 ?_
 refine awp_ret ?_
 refine fin_mk [] rfl rfl ?_ trivial (by decide)
 rfl
end Go.Proofs.Ytjkhgcmdcjdipaa.Abs
