import Derived.Test.YtjainpgohfhcaaaProg
import Derived.Test.YtjainpgohfhcaaaAbsC
import Derived.Shelf.Abstract
set_option linter.unusedVariables false
set_option linter.unusedSimpArgs false
namespace Go.Proofs.Ytjainpgohfhcaaa.Abs
open Go Go.RowKit
noncomputable abbrev Pr := Go.Proofs.Try.prog
theorem Pr_mix : Pr.follows .mixedOrders = true := by kernel_rfl
set_option maxRecDepth 100000 in
def T0 : TT := [
  (2, ⟨.int .i64, 1, 8, .int .i64 0⟩),
  (3, ⟨.int .i64, 1, 8, .int .i64 0⟩),
  (4, ⟨.bool, 1, 1, .bool false⟩),
  (5, ⟨.int .u8, 1, 1, .int .u8 0⟩),
  (22, ⟨.int .i16, 1, 2, .int .i16 0⟩),
  (24, ⟨.struct [(0, 22), (1, 22), (2, 22)], 3, 6, .agg #[.int .i16 0, .int .i16 0, .int .i16 0]⟩),
  (25, ⟨.slice 2, 1, 24, .slice none 0 0⟩),
  (26, ⟨.slice 54, 1, 24, .slice none 0 0⟩),
  (30, ⟨.struct [(0, 22), (1, 22), (2, 22)], 3, 6, .agg #[.int .i16 0, .int .i16 0, .int .i16 0]⟩),
  (33, ⟨.slice 52, 1, 24, .slice none 0 0⟩),
  (38, ⟨.slice 25, 1, 24, .slice none 0 0⟩),
  (50, ⟨.arr 3 5, 3, 3, .agg #[.int .u8 0, .int .u8 0, .int .u8 0]⟩),
  (52, ⟨.struct [(0, 22), (1, 50), (4, 22), (5, 22), (6, 22), (7, 22)], 8, 14, .agg #[.int .i16 0, .int .u8 0, .int .u8 0, .int .u8 0, .int .i16 0, .int .i16 0, .int .i16 0, .int .i16 0]⟩),
  (54, ⟨.struct [(0, 22), (1, 50), (4, 22), (5, 22), (6, 22), (7, 22)], 8, 14, .agg #[.int .i16 0, .int .u8 0, .int .u8 0, .int .u8 0, .int .i16 0, .int .i16 0, .int .i16 0, .int .i16 0]⟩),
  (65, ⟨.other, 1, 8, .nilFunc⟩),
  (69, ⟨.ptr 52, 1, 8, .pointer none⟩),
  (75, ⟨.other, 1, 8, .nilFunc⟩),
  (77, ⟨.other, 1, 8, .nilFunc⟩),
  (83, ⟨.other, 1, 8, .nilFunc⟩),
  (87, ⟨.slice 5, 1, 24, .slice none 0 0⟩),
  (88, ⟨.other, 1, 8, .nilFunc⟩)]
set_option maxHeartbeats 2000000 in
set_option maxRecDepth 100000 in
theorem T0_ok : TOk Pr T0 := by
  refine .cons ⟨?_, ?_, ?_⟩ (.cons ⟨?_, ?_, ?_⟩ (.cons ⟨?_, ?_, ?_⟩ (.cons ⟨?_, ?_, ?_⟩ (.cons ⟨?_, ?_, ?_⟩ (.cons ⟨?_, ?_, ?_⟩ (.cons ⟨?_, ?_, ?_⟩ (.cons ⟨?_, ?_, ?_⟩ (.cons ⟨?_, ?_, ?_⟩ (.cons ⟨?_, ?_, ?_⟩ (.cons ⟨?_, ?_, ?_⟩ (.cons ⟨?_, ?_, ?_⟩ (.cons ⟨?_, ?_, ?_⟩ (.cons ⟨?_, ?_, ?_⟩ (.cons ⟨?_, ?_, ?_⟩ (.cons ⟨?_, ?_, ?_⟩ (.cons ⟨?_, ?_, ?_⟩ (.cons ⟨?_, ?_, ?_⟩ (.cons ⟨?_, ?_, ?_⟩ (.cons ⟨?_, ?_, ?_⟩ (.cons ⟨?_, ?_, ?_⟩ (.nil _))))))))))))))))))))) <;> kernel_rfl
end Go.Proofs.Ytjainpgohfhcaaa.Abs
