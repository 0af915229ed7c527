import Derived.Test.YtlmpclapnpajhaaProg
import Derived.Test.YtlmpclapnpajhaaAbsC
import Derived.Shelf.Abstract
set_option linter.unusedVariables false
set_option linter.unusedSimpArgs false
namespace Go.Proofs.Ytlmpclapnpajhaa.Abs
open Go Go.RowKit
noncomputable abbrev Pr := Go.Proofs.Try.prog
theorem Pr_mix : Pr.follows .mixedOrders = true := by kernel_rfl
set_option maxRecDepth 100000 in
def T0 : TT := [
  (2, ⟨.int .i64, 1, 8, .int .i64 0⟩),
  (3, ⟨.int .i64, 1, 8, .int .i64 0⟩),
  (4, ⟨.bool, 1, 1, .bool false⟩),
  (5, ⟨.int .u8, 1, 1, .int .u8 0⟩),
  (22, ⟨.slice 58, 1, 24, .slice none 0 0⟩),
  (24, ⟨.int .i16, 1, 2, .int .i16 0⟩),
  (25, ⟨.slice 67, 1, 24, .slice none 0 0⟩),
  (27, ⟨.struct [(0, 24), (1, 25)], 2, 32, .agg #[.int .i16 0, .slice none 0 0]⟩),
  (30, ⟨.slice 56, 1, 24, .slice none 0 0⟩),
  (37, ⟨.slice 87, 1, 24, .slice none 0 0⟩),
  (39, ⟨.struct [(0, 24), (1, 37)], 2, 32, .agg #[.int .i16 0, .slice none 0 0]⟩),
  (54, ⟨.arr 3 5, 3, 3, .agg #[.int .u8 0, .int .u8 0, .int .u8 0]⟩),
  (56, ⟨.struct [(0, 24), (1, 54), (4, 24), (5, 24), (6, 24), (7, 24)], 8, 14, .agg #[.int .i16 0, .int .u8 0, .int .u8 0, .int .u8 0, .int .i16 0, .int .i16 0, .int .i16 0, .int .i16 0]⟩),
  (58, ⟨.struct [(0, 24), (1, 54), (4, 24), (5, 24), (6, 24), (7, 24)], 8, 14, .agg #[.int .i16 0, .int .u8 0, .int .u8 0, .int .u8 0, .int .i16 0, .int .i16 0, .int .i16 0, .int .i16 0]⟩),
  (64, ⟨.ptr 27, 1, 8, .pointer none⟩),
  (67, ⟨.struct [(0, 24), (1, 56)], 9, 16, .agg #[.int .i16 0, .int .i16 0, .int .u8 0, .int .u8 0, .int .u8 0, .int .i16 0, .int .i16 0, .int .i16 0, .int .i16 0]⟩),
  (71, ⟨.ptr 56, 1, 8, .pointer none⟩),
  (80, ⟨.other, 1, 8, .nilFunc⟩),
  (82, ⟨.other, 1, 8, .nilFunc⟩),
  (87, ⟨.struct [(0, 24), (1, 58)], 9, 16, .agg #[.int .i16 0, .int .i16 0, .int .u8 0, .int .u8 0, .int .u8 0, .int .i16 0, .int .i16 0, .int .i16 0, .int .i16 0]⟩),
  (90, ⟨.slice 2, 1, 24, .slice none 0 0⟩),
  (92, ⟨.other, 1, 8, .nilFunc⟩),
  (94, ⟨.other, 1, 8, .nilFunc⟩),
  (96, ⟨.int .i8, 1, 1, .int .i8 0⟩),
  (97, ⟨.slice 96, 1, 24, .slice none 0 0⟩),
  (99, ⟨.other, 1, 8, .nilFunc⟩),
  (102, ⟨.slice 5, 1, 24, .slice none 0 0⟩),
  (103, ⟨.other, 1, 8, .nilFunc⟩),
  (107, ⟨.arr 3 2, 3, 24, .agg #[.int .i64 0, .int .i64 0, .int .i64 0]⟩)]
set_option maxHeartbeats 2000000 in
set_option maxRecDepth 100000 in
theorem T0_ok : TOk Pr T0 := by
  refine .cons ⟨?_, ?_, ?_⟩ (.cons ⟨?_, ?_, ?_⟩ (.cons ⟨?_, ?_, ?_⟩ (.cons ⟨?_, ?_, ?_⟩ (.cons ⟨?_, ?_, ?_⟩ (.cons ⟨?_, ?_, ?_⟩ (.cons ⟨?_, ?_, ?_⟩ (.cons ⟨?_, ?_, ?_⟩ (.cons ⟨?_, ?_, ?_⟩ (.cons ⟨?_, ?_, ?_⟩ (.cons ⟨?_, ?_, ?_⟩ (.cons ⟨?_, ?_, ?_⟩ (.cons ⟨?_, ?_, ?_⟩ (.cons ⟨?_, ?_, ?_⟩ (.cons ⟨?_, ?_, ?_⟩ (.cons ⟨?_, ?_, ?_⟩ (.cons ⟨?_, ?_, ?_⟩ (.cons ⟨?_, ?_, ?_⟩ (.cons ⟨?_, ?_, ?_⟩ (.cons ⟨?_, ?_, ?_⟩ (.cons ⟨?_, ?_, ?_⟩ (.cons ⟨?_, ?_, ?_⟩ (.cons ⟨?_, ?_, ?_⟩ (.cons ⟨?_, ?_, ?_⟩ (.cons ⟨?_, ?_, ?_⟩ (.cons ⟨?_, ?_, ?_⟩ (.cons ⟨?_, ?_, ?_⟩ (.cons ⟨?_, ?_, ?_⟩ (.cons ⟨?_, ?_, ?_⟩ (.nil _))))))))))))))))))))))))))))) <;> kernel_rfl
end Go.Proofs.Ytlmpclapnpajhaa.Abs
