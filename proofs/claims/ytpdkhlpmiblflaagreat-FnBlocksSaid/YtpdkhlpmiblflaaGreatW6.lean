import Derived.Test.YtpdkhlpmiblflaaGreatW3
set_option linter.unusedVariables false
set_option linter.unusedSimpArgs false
namespace Go.Proofs.YtpdkhlpmiblflaaGreat.Abs
open Go Go.RowKit
abbrev a3D (x : Int × Int × Int) : D := .val (.agg #[.int .u8 x.1, .int .u8 x.2.1, .int .u8 x.2.2])
end Go.Proofs.YtpdkhlpmiblflaaGreat.Abs

