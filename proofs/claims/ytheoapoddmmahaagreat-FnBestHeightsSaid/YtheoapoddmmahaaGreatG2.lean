import Derived.Test.YtheoapoddmmahaaGreatG1
set_option linter.unusedVariables false
set_option linter.unusedSimpArgs false
namespace Go.Proofs.YtheoapoddmmahaaGreat.Abs
open Go Go.RowKit

abbrev PreB (bs : List Bk) (wide : Int) : Prop := ((∀ b ∈ bs, isBk b) ∧ (∀ b ∈ bs, okBk b) ∧ bs.length ≤ 60) ∧ 1 ≤ wide ∧ wide ≤ 2000
def QOk (bs : List Bk) (q : List Int) : Prop := (∀ x ∈ q, 0 ≤ x ∧ x < bs.length) ∧ q.length ≤ 60
theorem wdt_b {bs : List Bk} {wide : Int} (h : PreB bs wide) {x : Int} (hx : 0 ≤ x ∧ x < bs.length) : 1 ≤ (bs.getD x.toNat bk0).wide ∧ (bs.getD x.toNat bk0).wide ≤ 100 := (h.1.2.1 _ (getD_mem' (d := bk0) (show x.toNat < bs.length by omega))).1
theorem grpL_ok {hs : List Int} {bs : List Bk} (h60 : bs.length ≤ 60) : ∀ q ∈ grpL hs bs, QOk bs q := fun q hq => by
  simp only [grpL, grpF, List.mem_map, List.mem_range] at hq
  obtain ⟨k, hk, rfl⟩ := hq
  exact ⟨selK_b _ _ _, by have := selK_len (gF hs bs) k bs.length; omega⟩
theorem grpL_get {hs : List Int} {bs : List Bk} (h60 : bs.length ≤ 60) {k : Nat} (hk : k < (grpL hs bs).length) : QOk bs ((grpL hs bs).getD k []) := grpL_ok h60 _ (getD_mem' hk)
theorem mem_getD {α : Type} {d x : α} {xs : List α} (h : x ∈ xs) : ∃ i, i < xs.length ∧ xs.getD i d = x := by
  obtain ⟨i, hi, e⟩ := List.getElem_of_mem h
  exact ⟨i, hi, by simp [List.getD, hi, e]⟩
noncomputable def codeS (a b c : Int) (hs : List Int) (bs : List Bk) (wide : Int) : Int := if !validH a b c hs || !validBs bs then 1 else if !inI wide 1 2000 then 2 else if !ask (allG hs bs) then 6 else if bs.any (fun b => decide (b.wide > wide)) then 4 else 0
theorem codeS_ok {a b c : Int} {hs : List Int} {bs : List Bk} {wide : Int} (h : (codeS a b c hs bs wide != 0) = false) : (!validH a b c hs || !validBs bs) = false ∧ (1 ≤ wide ∧ wide ≤ 2000) ∧ allG hs bs := by
  unfold codeS at h
  split at h
  · simp at h
  · rename_i h1
    split at h
    · simp at h
    · rename_i h2
      split at h
      · simp at h
      · rename_i h3
        refine ⟨by simpa using h1, inI_iff.1 (by simpa using h2), ask_iff.1 (by simpa using h3)⟩
noncomputable def shelO (g : List Bk → Int → List Int → Int) (a b c : Int) (hs : List Int) (bs : List Bk) (wide : Int) : List Int × Int := if codeS a b c hs bs wide != 0 then ([], codeS a b c hs bs wide) else ((grpL hs bs).map (g bs wide), 0)
theorem shelO_bad {g : List Bk → Int → List Int → Int} {a b c : Int} {hs : List Int} {bs : List Bk} {wide k : Int} (h : codeS a b c hs bs wide = k) (hk : k ≠ 0) : shelO g a b c hs bs wide = ([], k) := by
  rw [shelO, h, if_pos (by simpa using hk)]
theorem shelO_good {g : List Bk → Int → List Int → Int} {a b c : Int} {hs : List Int} {bs : List Bk} {wide : Int} (h : codeS a b c hs bs wide = 0) : shelO g a b c hs bs wide = ((grpL hs bs).map (g bs wide), 0) := by
  rw [shelO, h]; rfl

end Go.Proofs.YtheoapoddmmahaaGreat.Abs

