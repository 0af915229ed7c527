import Derived.Test.YtjkhgcmdcjdipaaW1
set_option linter.unusedVariables false
set_option linter.unusedSimpArgs false
namespace Go.Proofs.Ytjkhgcmdcjdipaa.Abs
open Go Go.RowKit
def risesP (xs : List Int) : Prop := ∀ j, j + 1 < xs.length → xs.getD j 0 < xs.getD (j + 1) 0
theorem list_ext {xs ys : List Int} (hl : xs.length = ys.length) (h : ∀ j, j < xs.length → xs.getD j 0 = ys.getD j 0) : xs = ys := by
  apply List.ext_getElem hl
  intro i h1 h2
  have := h i h1
  simpa [List.getD, h1, h2] using this



theorem i64s_set (ys : List Int) (i : Nat) (v : Int) : (i64s ys).set i [.val (.int .i64 v)] = i64s (ys.set i v) := by simp [i64s]
theorem i64s_rep (n : Nat) : List.replicate n [D.val (.int .i64 0)] = i64s (List.replicate n 0) := by simp [i64s]
/-- The first i of a list, the rest zeros. -/
def cpy (xs : List Int) (i : Nat) : List Int := xs.take i ++ List.replicate (xs.length - i) 0
theorem cpy_zero (xs : List Int) : cpy xs 0 = List.replicate xs.length 0 := by simp [cpy]
theorem cpy_len (xs : List Int) (i : Nat) (h : i ≤ xs.length) : (cpy xs i).length = xs.length := by simp [cpy]; omega
theorem cpy_all (xs : List Int) : cpy xs xs.length = xs := by simp [cpy]
theorem cpy_set (xs : List Int) (i : Nat) (h : i < xs.length) : (cpy xs i).set i (xs.getD i 0) = cpy xs (i + 1) := by
  unfold cpy
  apply List.ext_getElem?
  intro j
  rw [List.getElem?_set]
  simp only [List.length_append, List.length_take, List.length_replicate]
  by_cases e : i = j
  · subst e
    rw [if_pos rfl, if_pos (by omega), List.getElem?_append_left (by simp; omega)]
    simp [List.getElem?_take, List.getD, h]
  · rw [if_neg e]
    by_cases h1 : j < i
    · rw [List.getElem?_append_left (by simp; omega), List.getElem?_append_left (by simp; omega)]
      simp [List.getElem?_take, h1, show j < i + 1 by omega]
    · rw [List.getElem?_append_right (by simp; omega), List.getElem?_append_right (by simp; omega)]
      simp only [List.length_take, List.getElem?_replicate]
      by_cases h2 : j < xs.length
      · rw [if_pos (by omega), if_pos (by omega)]
      · rw [if_neg (by omega), if_neg (by omega)]

end Go.Proofs.Ytjkhgcmdcjdipaa.Abs
