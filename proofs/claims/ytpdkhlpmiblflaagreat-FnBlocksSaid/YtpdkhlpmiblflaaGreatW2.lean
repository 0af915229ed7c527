import Derived.Test.YtpdkhlpmiblflaaGreatW1
set_option linter.unusedVariables false
set_option linter.unusedSimpArgs false
namespace Go.Proofs.YtpdkhlpmiblflaaGreat.Abs
open Go Go.RowKit
theorem i64s_set (ys : List Int) (i : Nat) (v : Int) : (i64s ys).set i [.val (.int .i64 v)] = i64s (ys.set i v) := by simp [i64s]
theorem i64s_rep (n : Nat) : List.replicate n [D.val (.int .i64 0)] = i64s (List.replicate n 0) := by simp [i64s]
end Go.Proofs.YtpdkhlpmiblflaaGreat.Abs

