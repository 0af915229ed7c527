import Derived.Test.YtnopmfjamjbphaaB9
set_option linter.unusedVariables false
set_option linter.unusedSimpArgs false
namespace Go.Proofs.Ytnopmfjamjbphaa.Abs
open Go Go.RowKit
noncomputable abbrev s_L_FnExactGroupBooks : Spec ((Int × Int × Int) × List Int × List Bk) where
  args := fun x => [pegs x.1, .sl 1 (i64s x.2.1), .sl 8 (bks x.2.2)]
  pre := fun x => isPegs x.1 ∧ (I64s x.2.1 ∧ x.2.1.length ≤ 9223372036854775807) ∧ ((∀ b ∈ x.2.2, isBk b) ∧ x.2.2.length ≤ 9223372036854775807)
  res := fun x => .val (.bool true)

theorem ok_L_FnExactGroupBooks : FnOk Pr 3 s_L_FnExactGroupBooks := by
  refine ⟨ok_L_FnExactGroupBooksN0.1, ?_⟩
  rintro ⟨⟨a, b, c⟩, hs, bs⟩ hx
  have hn6 := nG_le (a := a) (b := b) (c := c) (hs := hs) (bs := bs) hx.2.2.1
  obtain hn | hn | hn | hn | hn | hn | hn : nG a b c hs bs = 0 ∨ nG a b c hs bs = 1 ∨ nG a b c hs bs = 2 ∨ nG a b c hs bs = 3 ∨ nG a b c hs bs = 4 ∨ nG a b c hs bs = 5 ∨ nG a b c hs bs = 6 := by omega
  · exact ok_L_FnExactGroupBooksN0.2 ((a, b, c), hs, bs) ⟨hx.1, hx.2.1, hx.2.2, hn⟩
  · exact ok_L_FnExactGroupBooksN1.2 ((a, b, c), hs, bs) ⟨hx.1, hx.2.1, hx.2.2, hn⟩
  · exact ok_L_FnExactGroupBooksN2.2 ((a, b, c), hs, bs) ⟨hx.1, hx.2.1, hx.2.2, hn⟩
  · exact ok_L_FnExactGroupBooksN3.2 ((a, b, c), hs, bs) ⟨hx.1, hx.2.1, hx.2.2, hn⟩
  · exact ok_L_FnExactGroupBooksN4.2 ((a, b, c), hs, bs) ⟨hx.1, hx.2.1, hx.2.2, hn⟩
  · exact ok_L_FnExactGroupBooksN5.2 ((a, b, c), hs, bs) ⟨hx.1, hx.2.1, hx.2.2, hn⟩
  · exact ok_L_FnExactGroupBooksN6.2 ((a, b, c), hs, bs) ⟨hx.1, hx.2.1, hx.2.2, hn⟩
end Go.Proofs.Ytnopmfjamjbphaa.Abs
