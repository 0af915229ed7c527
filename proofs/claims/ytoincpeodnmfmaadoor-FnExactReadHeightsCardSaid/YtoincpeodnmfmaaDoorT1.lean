import Derived.Test.YtoincpeodnmfmaaDoorT0
set_option linter.unusedVariables false
set_option linter.unusedSimpArgs false
namespace Go.Proofs.YtoincpeodnmfmaaDoor.Abs
open Go Go.RowKit



end Go.Proofs.YtoincpeodnmfmaaDoor.Abs
