import Derived.Test.YtclgddkepbpalaaProg
import Derived.Test.YtclgddkepbpalaaAbsC
import Derived.Shelf.Abstract
set_option linter.unusedVariables false
set_option linter.unusedSimpArgs false
namespace Go.Proofs.Ytclgddkepbpalaa.Abs
open Go Go.RowKit
noncomputable abbrev Pr := Go.Proofs.Try.prog
theorem Pr_mix : Pr.follows .mixedOrders = true := by kernel_rfl
set_option maxRecDepth 100000 in
def T0 : TT := [
  (2, ⟨.int .i64, 1, 8, .int .i64 0⟩),
  (3, ⟨.int .i64, 1, 8, .int .i64 0⟩),
  (4, ⟨.bool, 1, 1, .bool false⟩),
  (5, ⟨.int .u8, 1, 1, .int .u8 0⟩),
  (21, ⟨.int .i32, 1, 4, .int .i32 0⟩),
  (22, ⟨.int .i16, 1, 2, .int .i16 0⟩),
  (24, ⟨.struct [(0, 22), (1, 22), (2, 22)], 3, 6, .agg #[.int .i16 0, .int .i16 0, .int .i16 0]⟩),
  (25, ⟨.slice 2, 1, 24, .slice none 0 0⟩),
  (26, ⟨.slice 22, 1, 24, .slice none 0 0⟩),
  (28, ⟨.struct [(0, 22), (1, 21), (2, 26)], 3, 32, .agg #[.int .i16 0, .int .i32 0, .slice none 0 0]⟩),
  (31, ⟨.struct [(0, 22), (1, 22), (2, 22)], 3, 6, .agg #[.int .i16 0, .int .i16 0, .int .i16 0]⟩),
  (39, ⟨.slice 71, 1, 24, .slice none 0 0⟩),
  (43, ⟨.slice 69, 1, 24, .slice none 0 0⟩),
  (47, ⟨.slice 25, 1, 24, .slice none 0 0⟩),
  (60, ⟨.ptr 28, 1, 8, .pointer none⟩),
  (61, ⟨.other, 1, 8, .nilFunc⟩),
  (67, ⟨.arr 3 5, 3, 3, .agg #[.int .u8 0, .int .u8 0, .int .u8 0]⟩),
  (69, ⟨.struct [(0, 22), (1, 67), (4, 22), (5, 22), (6, 22), (7, 22)], 8, 14, .agg #[.int .i16 0, .int .u8 0, .int .u8 0, .int .u8 0, .int .i16 0, .int .i16 0, .int .i16 0, .int .i16 0]⟩),
  (71, ⟨.struct [(0, 22), (1, 67), (4, 22), (5, 22), (6, 22), (7, 22)], 8, 14, .agg #[.int .i16 0, .int .u8 0, .int .u8 0, .int .u8 0, .int .i16 0, .int .i16 0, .int .i16 0, .int .i16 0]⟩),
  (81, ⟨.other, 1, 8, .nilFunc⟩),
  (89, ⟨.ptr 69, 1, 8, .pointer none⟩),
  (92, ⟨.other, 1, 8, .nilFunc⟩),
  (97, ⟨.other, 1, 8, .nilFunc⟩),
  (101, ⟨.slice 5, 1, 24, .slice none 0 0⟩),
  (102, ⟨.other, 1, 8, .nilFunc⟩)]
set_option maxHeartbeats 2000000 in
set_option maxRecDepth 100000 in
theorem T0_ok : TOk Pr T0 := by
  refine .cons ⟨?_, ?_, ?_⟩ (.cons ⟨?_, ?_, ?_⟩ (.cons ⟨?_, ?_, ?_⟩ (.cons ⟨?_, ?_, ?_⟩ (.cons ⟨?_, ?_, ?_⟩ (.cons ⟨?_, ?_, ?_⟩ (.cons ⟨?_, ?_, ?_⟩ (.cons ⟨?_, ?_, ?_⟩ (.cons ⟨?_, ?_, ?_⟩ (.cons ⟨?_, ?_, ?_⟩ (.cons ⟨?_, ?_, ?_⟩ (.cons ⟨?_, ?_, ?_⟩ (.cons ⟨?_, ?_, ?_⟩ (.cons ⟨?_, ?_, ?_⟩ (.cons ⟨?_, ?_, ?_⟩ (.cons ⟨?_, ?_, ?_⟩ (.cons ⟨?_, ?_, ?_⟩ (.cons ⟨?_, ?_, ?_⟩ (.cons ⟨?_, ?_, ?_⟩ (.cons ⟨?_, ?_, ?_⟩ (.cons ⟨?_, ?_, ?_⟩ (.cons ⟨?_, ?_, ?_⟩ (.cons ⟨?_, ?_, ?_⟩ (.cons ⟨?_, ?_, ?_⟩ (.cons ⟨?_, ?_, ?_⟩ (.nil _))))))))))))))))))))))))) <;> kernel_rfl
end Go.Proofs.Ytclgddkepbpalaa.Abs
