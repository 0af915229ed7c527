import Derived.Test.YtpdkhlpmiblflaaGreatProg
import Derived.Test.YtpdkhlpmiblflaaGreatAbsC
import Derived.Shelf.Abstract
set_option linter.unusedVariables false
set_option linter.unusedSimpArgs false
namespace Go.Proofs.YtpdkhlpmiblflaaGreat.Abs
open Go Go.RowKit
noncomputable abbrev Pr := Go.Proofs.Tryz.prog
theorem Pr_mix : Pr.follows .mixedOrders = true := by kernel_rfl
set_option maxRecDepth 100000 in
def T0 : TT := [
  (2, ⟨.int .i64, 1, 8, .int .i64 0⟩),
  (3, ⟨.int .i64, 1, 8, .int .i64 0⟩),
  (4, ⟨.bool, 1, 1, .bool false⟩),
  (5, ⟨.int .u8, 1, 1, .int .u8 0⟩),
  (9, ⟨.str, 1, 16, .string ⟨#[]⟩⟩),
  (22, ⟨.slice 5, 1, 24, .slice none 0 0⟩),
  (24, ⟨.slice 73, 1, 24, .slice none 0 0⟩),
  (28, ⟨.slice 40, 1, 24, .slice none 0 0⟩),
  (33, ⟨.int .i8, 1, 1, .int .i8 0⟩),
  (34, ⟨.slice 33, 1, 24, .slice none 0 0⟩),
  (38, ⟨.int .i16, 1, 2, .int .i16 0⟩),
  (40, ⟨.struct [(0, 38), (1, 38), (2, 38)], 3, 6, .agg #[.int .i16 0, .int .i16 0, .int .i16 0]⟩),
  (46, ⟨.struct [(0, 38), (1, 38)], 2, 4, .agg #[.int .i16 0, .int .i16 0]⟩),
  (49, ⟨.ptr 80, 1, 8, .pointer none⟩),
  (53, ⟨.other, 1, 8, .map none⟩),
  (55, ⟨.slice 2, 1, 24, .slice none 0 0⟩),
  (65, ⟨.slice 3, 1, 24, .slice none 0 0⟩),
  (71, ⟨.arr 3 5, 3, 3, .agg #[.int .u8 0, .int .u8 0, .int .u8 0]⟩),
  (73, ⟨.struct [(0, 38), (1, 71), (4, 38), (5, 38), (6, 38), (7, 38)], 8, 14, .agg #[.int .i16 0, .int .u8 0, .int .u8 0, .int .u8 0, .int .i16 0, .int .i16 0, .int .i16 0, .int .i16 0]⟩),
  (78, ⟨.int .u64, 1, 8, .int .u64 0⟩),
  (80, ⟨.struct [(0, 22), (1, 3), (2, 78)], 3, 40, .agg #[.slice none 0 0, .int .i64 0, .int .u64 0]⟩),
  (82, ⟨.other, 1, 8, .nilFunc⟩),
  (83, ⟨.other, 1, 8, .nilFunc⟩),
  (85, ⟨.slice 9, 1, 24, .slice none 0 0⟩),
  (88, ⟨.ptr 73, 1, 8, .pointer none⟩),
  (89, ⟨.slice 55, 1, 24, .slice none 0 0⟩),
  (98, ⟨.other, 1, 8, .nilFunc⟩),
  (101, ⟨.other, 1, 8, .nilFunc⟩),
  (102, ⟨.arr 7 4, 7, 7, .agg #[.bool false, .bool false, .bool false, .bool false, .bool false, .bool false, .bool false]⟩),
  (115, ⟨.int .u64, 1, 8, .int .u64 0⟩),
  (120, ⟨.other, 1, 8, .nilFunc⟩),
  (122, ⟨.arr 3 2, 3, 24, .agg #[.int .i64 0, .int .i64 0, .int .i64 0]⟩),
  (127, ⟨.int .i64, 1, 8, .int .i64 0⟩),
  (135, ⟨.int .u32, 1, 4, .int .u32 0⟩),
  (142, ⟨.int .u64, 1, 8, .int .u64 0⟩),
  (146, ⟨.ptr 3, 1, 8, .pointer none⟩)]
set_option maxHeartbeats 2000000 in
set_option maxRecDepth 100000 in
theorem T0_ok : TOk Pr T0 := by
  refine .cons ⟨?_, ?_, ?_⟩ (.cons ⟨?_, ?_, ?_⟩ (.cons ⟨?_, ?_, ?_⟩ (.cons ⟨?_, ?_, ?_⟩ (.cons ⟨?_, ?_, ?_⟩ (.cons ⟨?_, ?_, ?_⟩ (.cons ⟨?_, ?_, ?_⟩ (.cons ⟨?_, ?_, ?_⟩ (.cons ⟨?_, ?_, ?_⟩ (.cons ⟨?_, ?_, ?_⟩ (.cons ⟨?_, ?_, ?_⟩ (.cons ⟨?_, ?_, ?_⟩ (.cons ⟨?_, ?_, ?_⟩ (.cons ⟨?_, ?_, ?_⟩ (.cons ⟨?_, ?_, ?_⟩ (.cons ⟨?_, ?_, ?_⟩ (.cons ⟨?_, ?_, ?_⟩ (.cons ⟨?_, ?_, ?_⟩ (.cons ⟨?_, ?_, ?_⟩ (.cons ⟨?_, ?_, ?_⟩ (.cons ⟨?_, ?_, ?_⟩ (.cons ⟨?_, ?_, ?_⟩ (.cons ⟨?_, ?_, ?_⟩ (.cons ⟨?_, ?_, ?_⟩ (.cons ⟨?_, ?_, ?_⟩ (.cons ⟨?_, ?_, ?_⟩ (.cons ⟨?_, ?_, ?_⟩ (.cons ⟨?_, ?_, ?_⟩ (.cons ⟨?_, ?_, ?_⟩ (.cons ⟨?_, ?_, ?_⟩ (.cons ⟨?_, ?_, ?_⟩ (.cons ⟨?_, ?_, ?_⟩ (.cons ⟨?_, ?_, ?_⟩ (.cons ⟨?_, ?_, ?_⟩ (.cons ⟨?_, ?_, ?_⟩ (.cons ⟨?_, ?_, ?_⟩ (.nil _)))))))))))))))))))))))))))))))))))) <;> kernel_rfl
end Go.Proofs.YtpdkhlpmiblflaaGreat.Abs

