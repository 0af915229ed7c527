import Derived.Test.YtlcacfjikebmgaaLF1
set_option linter.unusedVariables false
set_option linter.unusedSimpArgs false
namespace Go.Proofs.Ytlcacfjikebmgaa.Abs
open Go Go.RowKit
def okBk (b : Bk) : Prop := (1 ≤ b.wide ∧ b.wide ≤ 100) ∧ 50 ≤ b.high ∧ b.high ≤ 400
abbrev PreG (hs : List Int) (bs : List Bk) : Prop := ((∀ b ∈ bs, isBk b) ∧ (∀ b ∈ bs, okBk b) ∧ bs.length ≤ 60) ∧ (∀ n ∈ hs, 50 ≤ n ∧ n ≤ 1000) ∧ 1 ≤ hs.length ∧ hs.length ≤ 6
end Go.Proofs.Ytlcacfjikebmgaa.Abs
