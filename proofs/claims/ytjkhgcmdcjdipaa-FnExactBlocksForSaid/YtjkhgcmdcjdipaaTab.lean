import Derived.Test.YtjkhgcmdcjdipaaProg
import Derived.Test.YtjkhgcmdcjdipaaAbsC
import Derived.Shelf.Abstract
set_option linter.unusedVariables false
set_option linter.unusedSimpArgs false
namespace Go.Proofs.Ytjkhgcmdcjdipaa.Abs
open Go Go.RowKit
noncomputable abbrev Pr := Go.Proofs.Try.prog
theorem Pr_mix : Pr.follows .mixedOrders = true := by kernel_rfl
set_option maxRecDepth 100000 in
def T0 : TT := [
  (2, ⟨.int .i64, 1, 8, .int .i64 0⟩),
  (3, ⟨.int .i64, 1, 8, .int .i64 0⟩),
  (4, ⟨.bool, 1, 1, .bool false⟩),
  (5, ⟨.int .u8, 1, 1, .int .u8 0⟩),
  (9, ⟨.str, 1, 16, .string ⟨#[]⟩⟩),
  (22, ⟨.slice 48, 1, 24, .slice none 0 0⟩),
  (26, ⟨.slice 46, 1, 24, .slice none 0 0⟩),
  (30, ⟨.slice 54, 1, 24, .slice none 0 0⟩),
  (37, ⟨.slice 2, 1, 24, .slice none 0 0⟩),
  (39, ⟨.slice 41, 1, 24, .slice none 0 0⟩),
  (41, ⟨.int .i8, 1, 1, .int .i8 0⟩),
  (43, ⟨.int .i16, 1, 2, .int .i16 0⟩),
  (44, ⟨.arr 3 5, 3, 3, .agg #[.int .u8 0, .int .u8 0, .int .u8 0]⟩),
  (46, ⟨.struct [(0, 43), (1, 44), (4, 43), (5, 43), (6, 43), (7, 43)], 8, 14, .agg #[.int .i16 0, .int .u8 0, .int .u8 0, .int .u8 0, .int .i16 0, .int .i16 0, .int .i16 0, .int .i16 0]⟩),
  (48, ⟨.struct [(0, 43), (1, 44), (4, 43), (5, 43), (6, 43), (7, 43)], 8, 14, .agg #[.int .i16 0, .int .u8 0, .int .u8 0, .int .u8 0, .int .i16 0, .int .i16 0, .int .i16 0, .int .i16 0]⟩),
  (50, ⟨.other, 1, 8, .map none⟩),
  (54, ⟨.struct [(0, 43), (1, 43), (2, 43)], 3, 6, .agg #[.int .i16 0, .int .i16 0, .int .i16 0]⟩),
  (58, ⟨.slice 5, 1, 24, .slice none 0 0⟩),
  (64, ⟨.ptr 46, 1, 8, .pointer none⟩),
  (65, ⟨.slice 37, 1, 24, .slice none 0 0⟩),
  (70, ⟨.other, 1, 8, .nilFunc⟩),
  (72, ⟨.slice 9, 1, 24, .slice none 0 0⟩),
  (82, ⟨.other, 1, 8, .nilFunc⟩),
  (87, ⟨.int .u64, 1, 8, .int .u64 0⟩),
  (94, ⟨.arr 3 2, 3, 24, .agg #[.int .i64 0, .int .i64 0, .int .i64 0]⟩),
  (98, ⟨.other, 1, 8, .nilFunc⟩),
  (101, ⟨.int .i64, 1, 8, .int .i64 0⟩),
  (109, ⟨.int .u32, 1, 4, .int .u32 0⟩),
  (111, ⟨.int .u64, 1, 8, .int .u64 0⟩),
  (115, ⟨.int .u64, 1, 8, .int .u64 0⟩),
  (119, ⟨.ptr 3, 1, 8, .pointer none⟩)]
set_option maxHeartbeats 2000000 in
set_option maxRecDepth 100000 in
theorem T0_ok : TOk Pr T0 := by
  refine .cons ⟨?_, ?_, ?_⟩ (.cons ⟨?_, ?_, ?_⟩ (.cons ⟨?_, ?_, ?_⟩ (.cons ⟨?_, ?_, ?_⟩ (.cons ⟨?_, ?_, ?_⟩ (.cons ⟨?_, ?_, ?_⟩ (.cons ⟨?_, ?_, ?_⟩ (.cons ⟨?_, ?_, ?_⟩ (.cons ⟨?_, ?_, ?_⟩ (.cons ⟨?_, ?_, ?_⟩ (.cons ⟨?_, ?_, ?_⟩ (.cons ⟨?_, ?_, ?_⟩ (.cons ⟨?_, ?_, ?_⟩ (.cons ⟨?_, ?_, ?_⟩ (.cons ⟨?_, ?_, ?_⟩ (.cons ⟨?_, ?_, ?_⟩ (.cons ⟨?_, ?_, ?_⟩ (.cons ⟨?_, ?_, ?_⟩ (.cons ⟨?_, ?_, ?_⟩ (.cons ⟨?_, ?_, ?_⟩ (.cons ⟨?_, ?_, ?_⟩ (.cons ⟨?_, ?_, ?_⟩ (.cons ⟨?_, ?_, ?_⟩ (.cons ⟨?_, ?_, ?_⟩ (.cons ⟨?_, ?_, ?_⟩ (.cons ⟨?_, ?_, ?_⟩ (.cons ⟨?_, ?_, ?_⟩ (.cons ⟨?_, ?_, ?_⟩ (.cons ⟨?_, ?_, ?_⟩ (.cons ⟨?_, ?_, ?_⟩ (.cons ⟨?_, ?_, ?_⟩ (.nil _))))))))))))))))))))))))))))))) <;> kernel_rfl
end Go.Proofs.Ytjkhgcmdcjdipaa.Abs
