import Derived.Test.YtibkdojfpgjdoaaProg
import Derived.Test.YtibkdojfpgjdoaaAbsC
import Derived.Shelf.Abstract
set_option linter.unusedVariables false
set_option linter.unusedSimpArgs false
namespace Go.Proofs.Ytibkdojfpgjdoaa.Abs
open Go Go.RowKit
noncomputable abbrev Pr := Go.Proofs.Try.prog
theorem Pr_mix : Pr.follows .mixedOrders = true := by kernel_rfl
set_option maxRecDepth 100000 in
def T0 : TT := [
  (2, ⟨.int .i64, 1, 8, .int .i64 0⟩),
  (3, ⟨.int .i64, 1, 8, .int .i64 0⟩),
  (4, ⟨.bool, 1, 1, .bool false⟩),
  (5, ⟨.int .u8, 1, 1, .int .u8 0⟩),
  (22, ⟨.slice 48, 1, 24, .slice none 0 0⟩),
  (26, ⟨.slice 46, 1, 24, .slice none 0 0⟩),
  (30, ⟨.slice 2, 1, 24, .slice none 0 0⟩),
  (36, ⟨.slice 57, 1, 24, .slice none 0 0⟩),
  (43, ⟨.int .i16, 1, 2, .int .i16 0⟩),
  (44, ⟨.arr 3 5, 3, 3, .agg #[.int .u8 0, .int .u8 0, .int .u8 0]⟩),
  (46, ⟨.struct [(0, 43), (1, 44), (4, 43), (5, 43), (6, 43), (7, 43)], 8, 14, .agg #[.int .i16 0, .int .u8 0, .int .u8 0, .int .u8 0, .int .i16 0, .int .i16 0, .int .i16 0, .int .i16 0]⟩),
  (48, ⟨.struct [(0, 43), (1, 44), (4, 43), (5, 43), (6, 43), (7, 43)], 8, 14, .agg #[.int .i16 0, .int .u8 0, .int .u8 0, .int .u8 0, .int .i16 0, .int .i16 0, .int .i16 0, .int .i16 0]⟩),
  (49, ⟨.slice 3, 1, 24, .slice none 0 0⟩),
  (57, ⟨.struct [(0, 43), (1, 43)], 2, 4, .agg #[.int .i16 0, .int .i16 0]⟩),
  (59, ⟨.ptr 46, 1, 8, .pointer none⟩),
  (63, ⟨.other, 1, 8, .nilFunc⟩),
  (67, ⟨.other, 1, 8, .nilFunc⟩),
  (74, ⟨.int .i8, 1, 1, .int .i8 0⟩),
  (75, ⟨.slice 74, 1, 24, .slice none 0 0⟩),
  (78, ⟨.slice 5, 1, 24, .slice none 0 0⟩),
  (79, ⟨.other, 1, 8, .nilFunc⟩),
  (84, ⟨.arr 3 2, 3, 24, .agg #[.int .i64 0, .int .i64 0, .int .i64 0]⟩),
  (91, ⟨.int .u64, 1, 8, .int .u64 0⟩)]
set_option maxHeartbeats 2000000 in
set_option maxRecDepth 100000 in
theorem T0_ok : TOk Pr T0 := by
  refine .cons ⟨?_, ?_, ?_⟩ (.cons ⟨?_, ?_, ?_⟩ (.cons ⟨?_, ?_, ?_⟩ (.cons ⟨?_, ?_, ?_⟩ (.cons ⟨?_, ?_, ?_⟩ (.cons ⟨?_, ?_, ?_⟩ (.cons ⟨?_, ?_, ?_⟩ (.cons ⟨?_, ?_, ?_⟩ (.cons ⟨?_, ?_, ?_⟩ (.cons ⟨?_, ?_, ?_⟩ (.cons ⟨?_, ?_, ?_⟩ (.cons ⟨?_, ?_, ?_⟩ (.cons ⟨?_, ?_, ?_⟩ (.cons ⟨?_, ?_, ?_⟩ (.cons ⟨?_, ?_, ?_⟩ (.cons ⟨?_, ?_, ?_⟩ (.cons ⟨?_, ?_, ?_⟩ (.cons ⟨?_, ?_, ?_⟩ (.cons ⟨?_, ?_, ?_⟩ (.cons ⟨?_, ?_, ?_⟩ (.cons ⟨?_, ?_, ?_⟩ (.cons ⟨?_, ?_, ?_⟩ (.cons ⟨?_, ?_, ?_⟩ (.nil _))))))))))))))))))))))) <;> kernel_rfl
end Go.Proofs.Ytibkdojfpgjdoaa.Abs
