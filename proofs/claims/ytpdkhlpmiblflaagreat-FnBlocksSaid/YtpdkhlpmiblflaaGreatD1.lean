import Derived.Test.YtpdkhlpmiblflaaGreatB5
import Derived.Test.YtpdkhlpmiblflaaGreatAbsE
set_option linter.unusedVariables false
set_option linter.unusedSimpArgs false
namespace Go.Proofs.YtpdkhlpmiblflaaGreat.Abs
open Go Go.RowKit
theorem eq_of_le : ∀ {l1 l2 : List Int}, l1.Perm l2 → l1.Pairwise (· ≤ ·) → l2.Pairwise (· ≤ ·) → l1 = l2
  | [], l2, p, _, _ => (List.nil_perm.1 p).symm
  | a :: l1, [], p, _, _ => absurd p.length_eq (by simp)
  | a :: l1, b :: l2, p, h1, h2 => by
    obtain ⟨a1, a2⟩ := List.pairwise_cons.1 h1
    obtain ⟨b1, b2⟩ := List.pairwise_cons.1 h2
    have hab : a = b := by
      have ha : a ∈ b :: l2 := p.mem_iff.1 (by simp)
      have hb : b ∈ a :: l1 := p.mem_iff.2 (by simp)
      rcases List.mem_cons.1 ha with e | ha
      · exact e
      · rcases List.mem_cons.1 hb with e | hb
        · exact e.symm
        · have := b1 a ha
          have := a1 b hb
          omega
    subst hab
    rw [eq_of_le (List.Perm.cons_inv p) a2 b2]
noncomputable def sortI (l : List Int) : List Int := l.mergeSort fun x y => decide (x ≤ y)
theorem sortI_le (l : List Int) : (sortI l).Pairwise (· ≤ ·) := by
  have := List.pairwise_mergeSort (le := fun x y : Int => decide (x ≤ y)) (fun a b c h1 h2 => by simp only [decide_eq_true_eq] at *; omega) (fun a b => by simp only [Bool.or_eq_true, decide_eq_true_eq]; omega) l
  exact this.imp (fun h => by simpa using h)
theorem sortI_perm (l : List Int) : (sortI l).Perm l := List.mergeSort_perm l _
theorem sortI_len (l : List Int) : (sortI l).length = l.length := (sortI_perm l).length_eq
theorem sortI_eq {l r : List Int} (hp : r.Perm l) (hs : r.Pairwise (· ≤ ·)) : sortI l = r := eq_of_le ((sortI_perm l).trans hp.symm) (sortI_le l) hs
def UpI (ys : List Int) (i : Nat) : Prop := ∀ p q, p < q → q < i → ys.getD p 0 ≤ ys.getD q 0
theorem UpI.all {ys : List Int} {i : Nat} (h : UpI ys i) (hi : ys.length ≤ i) : ys.Pairwise (· ≤ ·) := by
  rw [List.pairwise_iff_getElem]
  intro p q h1 h2 h3
  have := h p q h3 (by omega)
  simpa [List.getD, h1, h2] using this
theorem upI_ins {ys zs : List Int} {i j : Nat} (hS : UpI ys i) (hz : BubL ys zs i j) (hji : j ≤ i) (hgt : ∀ p, j ≤ p → p < i → ys.getD i 0 < ys.getD p 0) (hstop : j = 0 ∨ ys.getD (j - 1) 0 ≤ ys.getD i 0) : UpI zs (i + 1) := fun p q h1 h2 => by
  rw [hz p, hz q]
  by_cases a1 : p = j
  · rw [if_pos a1, if_neg (by omega), if_pos (by omega)]
    have := hgt (q - 1) (by omega) (by omega)
    omega
  · rw [if_neg a1]
    by_cases a2 : q = j
    · rw [if_neg (by omega), if_pos a2]
      have h3 := hstop.resolve_left (by omega)
      rcases Nat.lt_or_ge p (j - 1) with h4 | h4
      · have := hS p (j - 1) h4 (by omega); omega
      · rw [show p = j - 1 by omega]; exact h3
    · rw [if_neg a2]
      by_cases a3 : j < p ∧ p ≤ i
      · rw [if_pos a3, if_pos (by omega)]
        exact hS _ _ (by omega) (by omega)
      · rw [if_neg a3]
        by_cases a4 : j < q ∧ q ≤ i
        · rw [if_pos a4]
          rcases Nat.lt_or_ge p (q - 1) with h4 | h4
          · exact hS _ _ h4 (by omega)
          · rw [show p = q - 1 by omega]; exact Int.le_refl _
        · rw [if_neg a4]
          exact hS _ _ h1 (by omega)
def isU (xs : List Int) : Prop := ∀ v ∈ xs, 0 ≤ v ∧ v ≤ 255
theorem isU.get {xs : List Int} (h : isU xs) {i : Nat} (hi : i < xs.length) : 0 ≤ xs.getD i 0 ∧ xs.getD i 0 ≤ 255 := h _ (getD_mem' hi)
theorem isU.perm {xs ys : List Int} (h : isU xs) (hp : ys.Perm xs) : isU ys := fun v hv => h v (hp.mem_iff.1 hv)
theorem ints_set (k : IntKind) (xs : List Int) (i : Nat) (v : Int) : (ints k xs).set i [.val (.int k v)] = ints k (xs.set i v) := by simp

noncomputable abbrev s_cmp_Less_byte : Spec (Int × Int) where
  args := fun x => [.val (.int .u8 x.1), .val (.int .u8 x.2)]
  res := fun x => .val (.bool (decide (x.1 < x.2)))

set_option maxRecDepth 20000 in
set_option maxHeartbeats 1000000 in
theorem ok_cmp_Less_byte : FnOk Pr 97 s_cmp_Less_byte := by
 refine fn_ok 2 0 T0_ok Go.Proofs.Tryz.func97 rfl (enters_of Go.Proofs.Tryz.func97 rfl rfl) (fun _ => rfl) (fun _ => rfl) (fun _ => rfl) ?_
 rintro ⟨a, b⟩ - C hP hN hm hG
 change awp C _ _ ⟨[(0, .val (.int .u8 a)), (1, .val (.int .u8 b))], [], 0⟩
 refine awp_seq ?_
 refine r1 T0_ok hP hm hN ?_
 refine g1 ?_
 refine awp_seq ?_
 refine r1 T0_ok hP hm hN ?_
 refine g1 ?_
 refine gc1 ?_ (call1 ok_cmp_isNaN_byte _ [])
 refine g1 ?_
 iterate 3 (first | refine gn1 ?_ | refine gu1 ?_)
 iterate 2 refine g1 ?_
 iterate 3 refine gy1 ?_
 iterate 2 refine g1 ?_
 refine awp_ret ?_
 refine fin_mk [] rfl rfl ?_ trivial (by decide)
 rfl
end Go.Proofs.YtpdkhlpmiblflaaGreat.Abs

