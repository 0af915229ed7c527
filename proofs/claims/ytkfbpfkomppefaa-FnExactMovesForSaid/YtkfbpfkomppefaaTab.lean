import Derived.Test.YtkfbpfkomppefaaProg
import Derived.Test.YtkfbpfkomppefaaAbsC
import Derived.Shelf.Abstract
set_option linter.unusedVariables false
set_option linter.unusedSimpArgs false
namespace Go.Proofs.Ytkfbpfkomppefaa.Abs
open Go Go.RowKit
noncomputable abbrev Pr := Go.Proofs.Try.prog
theorem Pr_mix : Pr.follows .mixedOrders = true := by kernel_rfl
set_option maxRecDepth 100000 in
def T0 : TT := [
  (2, ⟨.int .i64, 1, 8, .int .i64 0⟩),
  (3, ⟨.int .i64, 1, 8, .int .i64 0⟩),
  (4, ⟨.bool, 1, 1, .bool false⟩),
  (5, ⟨.int .u8, 1, 1, .int .u8 0⟩),
  (22, ⟨.slice 62, 1, 24, .slice none 0 0⟩),
  (23, ⟨.int .i16, 1, 2, .int .i16 0⟩),
  (25, ⟨.struct [(0, 23), (1, 23), (2, 23)], 3, 6, .agg #[.int .i16 0, .int .i16 0, .int .i16 0]⟩),
  (27, ⟨.slice 60, 1, 24, .slice none 0 0⟩),
  (31, ⟨.struct [(0, 23), (1, 23), (2, 23)], 3, 6, .agg #[.int .i16 0, .int .i16 0, .int .i16 0]⟩),
  (37, ⟨.struct [(0, 23), (1, 23)], 2, 4, .agg #[.int .i16 0, .int .i16 0]⟩),
  (39, ⟨.struct [(0, 23), (1, 23)], 2, 4, .agg #[.int .i16 0, .int .i16 0]⟩),
  (42, ⟨.slice 37, 1, 24, .slice none 0 0⟩),
  (45, ⟨.slice 39, 1, 24, .slice none 0 0⟩),
  (58, ⟨.arr 3 5, 3, 3, .agg #[.int .u8 0, .int .u8 0, .int .u8 0]⟩),
  (60, ⟨.struct [(0, 23), (1, 58), (4, 23), (5, 23), (6, 23), (7, 23)], 8, 14, .agg #[.int .i16 0, .int .u8 0, .int .u8 0, .int .u8 0, .int .i16 0, .int .i16 0, .int .i16 0, .int .i16 0]⟩),
  (62, ⟨.struct [(0, 23), (1, 58), (4, 23), (5, 23), (6, 23), (7, 23)], 8, 14, .agg #[.int .i16 0, .int .u8 0, .int .u8 0, .int .u8 0, .int .i16 0, .int .i16 0, .int .i16 0, .int .i16 0]⟩),
  (72, ⟨.slice 2, 1, 24, .slice none 0 0⟩),
  (76, ⟨.ptr 60, 1, 8, .pointer none⟩),
  (77, ⟨.slice 3, 1, 24, .slice none 0 0⟩),
  (83, ⟨.other, 1, 8, .nilFunc⟩),
  (88, ⟨.other, 1, 8, .nilFunc⟩),
  (96, ⟨.int .i8, 1, 1, .int .i8 0⟩),
  (97, ⟨.slice 96, 1, 24, .slice none 0 0⟩),
  (107, ⟨.slice 5, 1, 24, .slice none 0 0⟩),
  (108, ⟨.other, 1, 8, .nilFunc⟩),
  (111, ⟨.arr 3 2, 3, 24, .agg #[.int .i64 0, .int .i64 0, .int .i64 0]⟩)]
set_option maxHeartbeats 2000000 in
set_option maxRecDepth 100000 in
theorem T0_ok : TOk Pr T0 := by
  refine .cons ⟨?_, ?_, ?_⟩ (.cons ⟨?_, ?_, ?_⟩ (.cons ⟨?_, ?_, ?_⟩ (.cons ⟨?_, ?_, ?_⟩ (.cons ⟨?_, ?_, ?_⟩ (.cons ⟨?_, ?_, ?_⟩ (.cons ⟨?_, ?_, ?_⟩ (.cons ⟨?_, ?_, ?_⟩ (.cons ⟨?_, ?_, ?_⟩ (.cons ⟨?_, ?_, ?_⟩ (.cons ⟨?_, ?_, ?_⟩ (.cons ⟨?_, ?_, ?_⟩ (.cons ⟨?_, ?_, ?_⟩ (.cons ⟨?_, ?_, ?_⟩ (.cons ⟨?_, ?_, ?_⟩ (.cons ⟨?_, ?_, ?_⟩ (.cons ⟨?_, ?_, ?_⟩ (.cons ⟨?_, ?_, ?_⟩ (.cons ⟨?_, ?_, ?_⟩ (.cons ⟨?_, ?_, ?_⟩ (.cons ⟨?_, ?_, ?_⟩ (.cons ⟨?_, ?_, ?_⟩ (.cons ⟨?_, ?_, ?_⟩ (.cons ⟨?_, ?_, ?_⟩ (.cons ⟨?_, ?_, ?_⟩ (.cons ⟨?_, ?_, ?_⟩ (.nil _)))))))))))))))))))))))))) <;> kernel_rfl
end Go.Proofs.Ytkfbpfkomppefaa.Abs
