import Derived.Test.YtheoapoddmmahaaGreatProg
import Derived.Test.YtheoapoddmmahaaGreatAbsC
import Derived.Shelf.Abstract
set_option linter.unusedVariables false
set_option linter.unusedSimpArgs false
namespace Go.Proofs.YtheoapoddmmahaaGreat.Abs
open Go Go.RowKit
noncomputable abbrev Pr := Go.Proofs.Tryz.prog
theorem Pr_mix : Pr.follows .mixedOrders = true := by kernel_rfl
set_option maxRecDepth 100000 in
def T0 : TT := [
  (2, ⟨.int .i64, 1, 8, .int .i64 0⟩),
  (3, ⟨.int .i64, 1, 8, .int .i64 0⟩),
  (4, ⟨.bool, 1, 1, .bool false⟩),
  (5, ⟨.int .u8, 1, 1, .int .u8 0⟩),
  (9, ⟨.str, 1, 16, .string ⟨#[]⟩⟩),
  (22, ⟨.slice 5, 1, 24, .slice none 0 0⟩),
  (24, ⟨.int .i16, 1, 2, .int .i16 0⟩),
  (26, ⟨.struct [(0, 24), (1, 24), (2, 24)], 3, 6, .agg #[.int .i16 0, .int .i16 0, .int .i16 0]⟩),
  (28, ⟨.slice 41, 1, 24, .slice none 0 0⟩),
  (31, ⟨.slice 2, 1, 24, .slice none 0 0⟩),
  (39, ⟨.arr 3 5, 3, 3, .agg #[.int .u8 0, .int .u8 0, .int .u8 0]⟩),
  (41, ⟨.struct [(0, 24), (1, 39), (4, 24), (5, 24), (6, 24), (7, 24)], 8, 14, .agg #[.int .i16 0, .int .u8 0, .int .u8 0, .int .u8 0, .int .i16 0, .int .i16 0, .int .i16 0, .int .i16 0]⟩),
  (50, ⟨.ptr 87, 1, 8, .pointer none⟩),
  (72, ⟨.other, 1, 8, .nilFunc⟩),
  (74, ⟨.slice 31, 1, 24, .slice none 0 0⟩),
  (80, ⟨.other, 1, 8, .nilFunc⟩),
  (85, ⟨.int .u64, 1, 8, .int .u64 0⟩),
  (87, ⟨.struct [(0, 22), (1, 3), (2, 85)], 3, 40, .agg #[.slice none 0 0, .int .i64 0, .int .u64 0]⟩),
  (90, ⟨.int .i8, 1, 1, .int .i8 0⟩),
  (91, ⟨.slice 90, 1, 24, .slice none 0 0⟩),
  (94, ⟨.other, 1, 8, .nilFunc⟩),
  (96, ⟨.other, 1, 8, .nilFunc⟩),
  (105, ⟨.other, 1, 8, .nilFunc⟩),
  (108, ⟨.ptr 41, 1, 8, .pointer none⟩),
  (115, ⟨.other, 1, 8, .nilFunc⟩),
  (117, ⟨.int .u64, 1, 8, .int .u64 0⟩),
  (123, ⟨.arr 3 2, 3, 24, .agg #[.int .i64 0, .int .i64 0, .int .i64 0]⟩),
  (126, ⟨.int .u32, 1, 4, .int .u32 0⟩),
  (136, ⟨.int .i64, 1, 8, .int .i64 0⟩),
  (146, ⟨.int .u64, 1, 8, .int .u64 0⟩),
  (150, ⟨.ptr 3, 1, 8, .pointer none⟩)]
set_option maxHeartbeats 2000000 in
set_option maxRecDepth 100000 in
theorem T0_ok : TOk Pr T0 := by
  refine .cons ⟨?_, ?_, ?_⟩ (.cons ⟨?_, ?_, ?_⟩ (.cons ⟨?_, ?_, ?_⟩ (.cons ⟨?_, ?_, ?_⟩ (.cons ⟨?_, ?_, ?_⟩ (.cons ⟨?_, ?_, ?_⟩ (.cons ⟨?_, ?_, ?_⟩ (.cons ⟨?_, ?_, ?_⟩ (.cons ⟨?_, ?_, ?_⟩ (.cons ⟨?_, ?_, ?_⟩ (.cons ⟨?_, ?_, ?_⟩ (.cons ⟨?_, ?_, ?_⟩ (.cons ⟨?_, ?_, ?_⟩ (.cons ⟨?_, ?_, ?_⟩ (.cons ⟨?_, ?_, ?_⟩ (.cons ⟨?_, ?_, ?_⟩ (.cons ⟨?_, ?_, ?_⟩ (.cons ⟨?_, ?_, ?_⟩ (.cons ⟨?_, ?_, ?_⟩ (.cons ⟨?_, ?_, ?_⟩ (.cons ⟨?_, ?_, ?_⟩ (.cons ⟨?_, ?_, ?_⟩ (.cons ⟨?_, ?_, ?_⟩ (.cons ⟨?_, ?_, ?_⟩ (.cons ⟨?_, ?_, ?_⟩ (.cons ⟨?_, ?_, ?_⟩ (.cons ⟨?_, ?_, ?_⟩ (.cons ⟨?_, ?_, ?_⟩ (.cons ⟨?_, ?_, ?_⟩ (.cons ⟨?_, ?_, ?_⟩ (.cons ⟨?_, ?_, ?_⟩ (.nil _))))))))))))))))))))))))))))))) <;> kernel_rfl
end Go.Proofs.YtheoapoddmmahaaGreat.Abs

