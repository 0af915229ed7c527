import Derived.Test.YtafobbekeoghiaaProg
import Derived.Test.YtafobbekeoghiaaAbsC
import Derived.Shelf.Abstract
set_option linter.unusedVariables false
set_option linter.unusedSimpArgs false
namespace Go.Proofs.Ytafobbekeoghiaa.Abs
open Go Go.RowKit
noncomputable abbrev Pr := Go.Proofs.Try.prog
theorem Pr_mix : Pr.follows .mixedOrders = true := by kernel_rfl
set_option maxRecDepth 100000 in
def T0 : TT := [
  (2, ⟨.int .i64, 1, 8, .int .i64 0⟩),
  (3, ⟨.int .i64, 1, 8, .int .i64 0⟩),
  (4, ⟨.bool, 1, 1, .bool false⟩),
  (5, ⟨.int .u8, 1, 1, .int .u8 0⟩),
  (22, ⟨.int .i16, 1, 2, .int .i16 0⟩),
  (23, ⟨.slice 61, 1, 24, .slice none 0 0⟩),
  (25, ⟨.struct [(0, 22), (1, 23)], 2, 32, .agg #[.int .i16 0, .slice none 0 0]⟩),
  (26, ⟨.arr 3 5, 3, 3, .agg #[.int .u8 0, .int .u8 0, .int .u8 0]⟩),
  (28, ⟨.struct [(0, 22), (1, 26), (4, 22), (5, 22), (6, 22), (7, 22)], 8, 14, .agg #[.int .i16 0, .int .u8 0, .int .u8 0, .int .u8 0, .int .i16 0, .int .i16 0, .int .i16 0, .int .i16 0]⟩),
  (32, ⟨.slice 58, 1, 24, .slice none 0 0⟩),
  (34, ⟨.struct [(0, 22), (1, 32)], 2, 32, .agg #[.int .i16 0, .slice none 0 0]⟩),
  (36, ⟨.struct [(0, 22), (1, 26), (4, 22), (5, 22), (6, 22), (7, 22)], 8, 14, .agg #[.int .i16 0, .int .u8 0, .int .u8 0, .int .u8 0, .int .i16 0, .int .i16 0, .int .i16 0, .int .i16 0]⟩),
  (52, ⟨.ptr 34, 1, 8, .pointer none⟩),
  (54, ⟨.ptr 36, 1, 8, .pointer none⟩),
  (58, ⟨.struct [(0, 22), (1, 36)], 9, 16, .agg #[.int .i16 0, .int .i16 0, .int .u8 0, .int .u8 0, .int .u8 0, .int .i16 0, .int .i16 0, .int .i16 0, .int .i16 0]⟩),
  (61, ⟨.struct [(0, 22), (1, 28)], 9, 16, .agg #[.int .i16 0, .int .i16 0, .int .u8 0, .int .u8 0, .int .u8 0, .int .i16 0, .int .i16 0, .int .i16 0, .int .i16 0]⟩),
  (65, ⟨.slice 4, 1, 24, .slice none 0 0⟩),
  (69, ⟨.other, 1, 8, .nilFunc⟩),
  (70, ⟨.other, 1, 8, .nilFunc⟩),
  (80, ⟨.slice 2, 1, 24, .slice none 0 0⟩),
  (82, ⟨.other, 1, 8, .nilFunc⟩),
  (85, ⟨.slice 36, 1, 24, .slice none 0 0⟩),
  (88, ⟨.slice 5, 1, 24, .slice none 0 0⟩),
  (89, ⟨.other, 1, 8, .nilFunc⟩),
  (91, ⟨.slice 95, 1, 24, .slice none 0 0⟩),
  (95, ⟨.int .i8, 1, 1, .int .i8 0⟩),
  (100, ⟨.other, 1, 8, .nilFunc⟩),
  (104, ⟨.arr 3 2, 3, 24, .agg #[.int .i64 0, .int .i64 0, .int .i64 0]⟩)]
set_option maxHeartbeats 2000000 in
set_option maxRecDepth 100000 in
theorem T0_ok : TOk Pr T0 := by
  refine .cons ⟨?_, ?_, ?_⟩ (.cons ⟨?_, ?_, ?_⟩ (.cons ⟨?_, ?_, ?_⟩ (.cons ⟨?_, ?_, ?_⟩ (.cons ⟨?_, ?_, ?_⟩ (.cons ⟨?_, ?_, ?_⟩ (.cons ⟨?_, ?_, ?_⟩ (.cons ⟨?_, ?_, ?_⟩ (.cons ⟨?_, ?_, ?_⟩ (.cons ⟨?_, ?_, ?_⟩ (.cons ⟨?_, ?_, ?_⟩ (.cons ⟨?_, ?_, ?_⟩ (.cons ⟨?_, ?_, ?_⟩ (.cons ⟨?_, ?_, ?_⟩ (.cons ⟨?_, ?_, ?_⟩ (.cons ⟨?_, ?_, ?_⟩ (.cons ⟨?_, ?_, ?_⟩ (.cons ⟨?_, ?_, ?_⟩ (.cons ⟨?_, ?_, ?_⟩ (.cons ⟨?_, ?_, ?_⟩ (.cons ⟨?_, ?_, ?_⟩ (.cons ⟨?_, ?_, ?_⟩ (.cons ⟨?_, ?_, ?_⟩ (.cons ⟨?_, ?_, ?_⟩ (.cons ⟨?_, ?_, ?_⟩ (.cons ⟨?_, ?_, ?_⟩ (.cons ⟨?_, ?_, ?_⟩ (.cons ⟨?_, ?_, ?_⟩ (.nil _)))))))))))))))))))))))))))) <;> kernel_rfl
end Go.Proofs.Ytafobbekeoghiaa.Abs
