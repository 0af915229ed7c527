import Derived.Test.YtnopmfjamjbphaaProg
import Derived.Test.YtnopmfjamjbphaaAbsC
import Derived.Shelf.Abstract
set_option linter.unusedVariables false
set_option linter.unusedSimpArgs false
namespace Go.Proofs.Ytnopmfjamjbphaa.Abs
open Go Go.RowKit
noncomputable abbrev Pr := Go.Proofs.Try.prog
theorem Pr_mix : Pr.follows .mixedOrders = true := by kernel_rfl
set_option maxRecDepth 100000 in
def T0 : TT := [
  (2, ⟨.int .i64, 1, 8, .int .i64 0⟩),
  (3, ⟨.int .i64, 1, 8, .int .i64 0⟩),
  (4, ⟨.bool, 1, 1, .bool false⟩),
  (5, ⟨.int .u8, 1, 1, .int .u8 0⟩),
  (22, ⟨.int .i16, 1, 2, .int .i16 0⟩),
  (24, ⟨.struct [(0, 22), (1, 22), (2, 22)], 3, 6, .agg #[.int .i16 0, .int .i16 0, .int .i16 0]⟩),
  (25, ⟨.slice 2, 1, 24, .slice none 0 0⟩),
  (26, ⟨.slice 49, 1, 24, .slice none 0 0⟩),
  (28, ⟨.slice 25, 1, 24, .slice none 0 0⟩),
  (31, ⟨.struct [(0, 22), (1, 22), (2, 22)], 3, 6, .agg #[.int .i16 0, .int .i16 0, .int .i16 0]⟩),
  (34, ⟨.slice 47, 1, 24, .slice none 0 0⟩),
  (45, ⟨.arr 3 5, 3, 3, .agg #[.int .u8 0, .int .u8 0, .int .u8 0]⟩),
  (47, ⟨.struct [(0, 22), (1, 45), (4, 22), (5, 22), (6, 22), (7, 22)], 8, 14, .agg #[.int .i16 0, .int .u8 0, .int .u8 0, .int .u8 0, .int .i16 0, .int .i16 0, .int .i16 0, .int .i16 0]⟩),
  (49, ⟨.struct [(0, 22), (1, 45), (4, 22), (5, 22), (6, 22), (7, 22)], 8, 14, .agg #[.int .i16 0, .int .u8 0, .int .u8 0, .int .u8 0, .int .i16 0, .int .i16 0, .int .i16 0, .int .i16 0]⟩),
  (57, ⟨.ptr 47, 1, 8, .pointer none⟩),
  (63, ⟨.other, 1, 8, .nilFunc⟩),
  (65, ⟨.other, 1, 8, .nilFunc⟩),
  (71, ⟨.slice 5, 1, 24, .slice none 0 0⟩),
  (72, ⟨.other, 1, 8, .nilFunc⟩)]
set_option maxHeartbeats 2000000 in
set_option maxRecDepth 100000 in
theorem T0_ok : TOk Pr T0 := by
  refine .cons ⟨?_, ?_, ?_⟩ (.cons ⟨?_, ?_, ?_⟩ (.cons ⟨?_, ?_, ?_⟩ (.cons ⟨?_, ?_, ?_⟩ (.cons ⟨?_, ?_, ?_⟩ (.cons ⟨?_, ?_, ?_⟩ (.cons ⟨?_, ?_, ?_⟩ (.cons ⟨?_, ?_, ?_⟩ (.cons ⟨?_, ?_, ?_⟩ (.cons ⟨?_, ?_, ?_⟩ (.cons ⟨?_, ?_, ?_⟩ (.cons ⟨?_, ?_, ?_⟩ (.cons ⟨?_, ?_, ?_⟩ (.cons ⟨?_, ?_, ?_⟩ (.cons ⟨?_, ?_, ?_⟩ (.cons ⟨?_, ?_, ?_⟩ (.cons ⟨?_, ?_, ?_⟩ (.cons ⟨?_, ?_, ?_⟩ (.cons ⟨?_, ?_, ?_⟩ (.nil _))))))))))))))))))) <;> kernel_rfl
end Go.Proofs.Ytnopmfjamjbphaa.Abs
