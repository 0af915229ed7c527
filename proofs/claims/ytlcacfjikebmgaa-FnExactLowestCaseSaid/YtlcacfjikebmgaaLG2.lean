import Derived.Test.YtlcacfjikebmgaaLG1
set_option linter.unusedVariables false
set_option linter.unusedSimpArgs false
namespace Go.Proofs.Ytlcacfjikebmgaa.Abs
open Go Go.RowKit

abbrev PreB (bs : List Bk) (wide : Int) : Prop := ((∀ b ∈ bs, isBk b) ∧ (∀ b ∈ bs, okBk b) ∧ bs.length ≤ 60) ∧ 1 ≤ wide ∧ wide ≤ 2000
def QOk (bs : List Bk) (q : List Int) : Prop := (∀ x ∈ q, 0 ≤ x ∧ x < bs.length) ∧ q.length ≤ 60
def wdt (bs : List Bk) (x : Int) : Int := (bs.getD x.toNat bk0).wide
theorem wdt_b {bs : List Bk} {wide : Int} (h : PreB bs wide) {x : Int} (hx : 0 ≤ x ∧ x < bs.length) : 1 ≤ (bs.getD x.toNat bk0).wide ∧ (bs.getD x.toNat bk0).wide ≤ 100 := (h.1.2.1 _ (getD_mem' (d := bk0) (show x.toNat < bs.length by omega))).1
theorem sumW_b {bs : List Bk} {wide : Int} (h : PreB bs wide) {q : List Int} (hq : QOk bs q) {i : Nat} (hi : i ≤ q.length) : 0 ≤ sumF (wdt bs) q i ∧ sumF (wdt bs) q i ≤ 6000 := by
  have hb := sumF_b (w := wdt bs) (l := q) (B := 100) (by omega) (fun x hx => by have := wdt_b h (hq.1 x hx); unfold wdt; omega) i hi
  have := hq.2
  have : (i : Int) * 100 ≤ 6000 := by omega
  omega
theorem sumF_b0 : True := trivial
def bndI (bs : List Bk) (wide : Int) (q : List Int) : Int := IntKind.i64.wrap ((sumF (wdt bs) q q.length + wide - 1).tdiv wide)
theorem grpL_ok {hs : List Int} {bs : List Bk} (h60 : bs.length ≤ 60) : ∀ q ∈ grpL hs bs, QOk bs q := fun q hq => by
  simp only [grpL, grpF, List.mem_map, List.mem_range] at hq
  obtain ⟨k, hk, rfl⟩ := hq
  exact ⟨selK_b _ _ _, by have := selK_len (gF hs bs) k bs.length; omega⟩
theorem grpL_get {hs : List Int} {bs : List Bk} (h60 : bs.length ≤ 60) {k : Nat} (hk : k < (grpL hs bs).length) : QOk bs ((grpL hs bs).getD k []) := grpL_ok h60 _ (getD_mem' hk)
theorem mem_getD {α : Type} {d x : α} {xs : List α} (h : x ∈ xs) : ∃ i, i < xs.length ∧ xs.getD i d = x := by
  obtain ⟨i, hi, e⟩ := List.getElem_of_mem h
  exact ⟨i, hi, by simp [List.getD, hi, e]⟩
end Go.Proofs.Ytlcacfjikebmgaa.Abs
