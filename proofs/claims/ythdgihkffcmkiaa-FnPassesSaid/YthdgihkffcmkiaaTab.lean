import Derived.Test.YthdgihkffcmkiaaProg
import Derived.Test.YthdgihkffcmkiaaAbsC
import Derived.Shelf.Abstract
set_option linter.unusedVariables false
set_option linter.unusedSimpArgs false
namespace Go.Proofs.Ythdgihkffcmkiaa.Abs
open Go Go.RowKit
noncomputable abbrev Pr := Go.Proofs.Try.prog
theorem Pr_mix : Pr.follows .mixedOrders = true := by kernel_rfl
set_option maxRecDepth 100000 in
def T0 : TT := [
  (2, ⟨.int .i64, 1, 8, .int .i64 0⟩),
  (3, ⟨.int .i64, 1, 8, .int .i64 0⟩),
  (4, ⟨.bool, 1, 1, .bool false⟩),
  (5, ⟨.int .u8, 1, 1, .int .u8 0⟩),
  (22, ⟨.slice 5, 1, 24, .slice none 0 0⟩),
  (24, ⟨.slice 39, 1, 24, .slice none 0 0⟩),
  (28, ⟨.slice 2, 1, 24, .slice none 0 0⟩),
  (33, ⟨.int .i8, 1, 1, .int .i8 0⟩),
  (34, ⟨.slice 33, 1, 24, .slice none 0 0⟩),
  (36, ⟨.int .i16, 1, 2, .int .i16 0⟩),
  (37, ⟨.arr 3 5, 3, 3, .agg #[.int .u8 0, .int .u8 0, .int .u8 0]⟩),
  (39, ⟨.struct [(0, 36), (1, 37), (4, 36), (5, 36), (6, 36), (7, 36)], 8, 14, .agg #[.int .i16 0, .int .u8 0, .int .u8 0, .int .u8 0, .int .i16 0, .int .i16 0, .int .i16 0, .int .i16 0]⟩),
  (41, ⟨.slice 47, 1, 24, .slice none 0 0⟩),
  (47, ⟨.struct [(0, 36), (1, 36)], 2, 4, .agg #[.int .i16 0, .int .i16 0]⟩),
  (50, ⟨.ptr 68, 1, 8, .pointer none⟩),
  (60, ⟨.other, 1, 8, .nilFunc⟩),
  (66, ⟨.int .u64, 1, 8, .int .u64 0⟩),
  (68, ⟨.struct [(0, 22), (1, 3), (2, 66)], 3, 40, .agg #[.slice none 0 0, .int .i64 0, .int .u64 0]⟩),
  (70, ⟨.other, 1, 8, .nilFunc⟩),
  (71, ⟨.slice 3, 1, 24, .slice none 0 0⟩),
  (74, ⟨.ptr 39, 1, 8, .pointer none⟩),
  (75, ⟨.arr 7 4, 7, 7, .agg #[.bool false, .bool false, .bool false, .bool false, .bool false, .bool false, .bool false]⟩),
  (85, ⟨.other, 1, 8, .nilFunc⟩),
  (87, ⟨.other, 1, 8, .nilFunc⟩),
  (90, ⟨.arr 3 2, 3, 24, .agg #[.int .i64 0, .int .i64 0, .int .i64 0]⟩),
  (94, ⟨.int .u64, 1, 8, .int .u64 0⟩)]
set_option maxHeartbeats 2000000 in
set_option maxRecDepth 100000 in
theorem T0_ok : TOk Pr T0 := by
  refine .cons ⟨?_, ?_, ?_⟩ (.cons ⟨?_, ?_, ?_⟩ (.cons ⟨?_, ?_, ?_⟩ (.cons ⟨?_, ?_, ?_⟩ (.cons ⟨?_, ?_, ?_⟩ (.cons ⟨?_, ?_, ?_⟩ (.cons ⟨?_, ?_, ?_⟩ (.cons ⟨?_, ?_, ?_⟩ (.cons ⟨?_, ?_, ?_⟩ (.cons ⟨?_, ?_, ?_⟩ (.cons ⟨?_, ?_, ?_⟩ (.cons ⟨?_, ?_, ?_⟩ (.cons ⟨?_, ?_, ?_⟩ (.cons ⟨?_, ?_, ?_⟩ (.cons ⟨?_, ?_, ?_⟩ (.cons ⟨?_, ?_, ?_⟩ (.cons ⟨?_, ?_, ?_⟩ (.cons ⟨?_, ?_, ?_⟩ (.cons ⟨?_, ?_, ?_⟩ (.cons ⟨?_, ?_, ?_⟩ (.cons ⟨?_, ?_, ?_⟩ (.cons ⟨?_, ?_, ?_⟩ (.cons ⟨?_, ?_, ?_⟩ (.cons ⟨?_, ?_, ?_⟩ (.cons ⟨?_, ?_, ?_⟩ (.cons ⟨?_, ?_, ?_⟩ (.nil _)))))))))))))))))))))))))) <;> kernel_rfl
end Go.Proofs.Ythdgihkffcmkiaa.Abs

