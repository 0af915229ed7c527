import Derived.Test.YtlbpjklpmphdpaaProg
import Derived.Test.YtlbpjklpmphdpaaAbsC
import Derived.Shelf.Abstract
set_option linter.unusedVariables false
set_option linter.unusedSimpArgs false
namespace Go.Proofs.Ytlbpjklpmphdpaa.Abs
open Go Go.RowKit
noncomputable abbrev Pr := Go.Proofs.Try.prog
theorem Pr_mix : Pr.follows .mixedOrders = true := by kernel_rfl
set_option maxRecDepth 100000 in
def T0 : TT := [
  (2, ⟨.int .i64, 1, 8, .int .i64 0⟩),
  (3, ⟨.int .i64, 1, 8, .int .i64 0⟩),
  (4, ⟨.bool, 1, 1, .bool false⟩),
  (5, ⟨.int .u8, 1, 1, .int .u8 0⟩),
  (22, ⟨.slice 56, 1, 24, .slice none 0 0⟩),
  (24, ⟨.slice 2, 1, 24, .slice none 0 0⟩),
  (27, ⟨.slice 54, 1, 24, .slice none 0 0⟩),
  (36, ⟨.int .i16, 1, 2, .int .i16 0⟩),
  (38, ⟨.struct [(0, 36), (1, 36), (2, 36)], 3, 6, .agg #[.int .i16 0, .int .i16 0, .int .i16 0]⟩),
  (41, ⟨.struct [(0, 36), (1, 36), (2, 36)], 3, 6, .agg #[.int .i16 0, .int .i16 0, .int .i16 0]⟩),
  (45, ⟨.struct [(0, 36), (1, 36)], 2, 4, .agg #[.int .i16 0, .int .i16 0]⟩),
  (47, ⟨.struct [(0, 36), (1, 36)], 2, 4, .agg #[.int .i16 0, .int .i16 0]⟩),
  (52, ⟨.arr 3 5, 3, 3, .agg #[.int .u8 0, .int .u8 0, .int .u8 0]⟩),
  (54, ⟨.struct [(0, 36), (1, 52), (4, 36), (5, 36), (6, 36), (7, 36)], 8, 14, .agg #[.int .i16 0, .int .u8 0, .int .u8 0, .int .u8 0, .int .i16 0, .int .i16 0, .int .i16 0, .int .i16 0]⟩),
  (56, ⟨.struct [(0, 36), (1, 52), (4, 36), (5, 36), (6, 36), (7, 36)], 8, 14, .agg #[.int .i16 0, .int .u8 0, .int .u8 0, .int .u8 0, .int .i16 0, .int .i16 0, .int .i16 0, .int .i16 0]⟩),
  (59, ⟨.slice 3, 1, 24, .slice none 0 0⟩),
  (62, ⟨.other, 1, 8, .nilFunc⟩),
  (71, ⟨.ptr 54, 1, 8, .pointer none⟩),
  (76, ⟨.other, 1, 8, .nilFunc⟩),
  (78, ⟨.slice 89, 1, 24, .slice none 0 0⟩),
  (89, ⟨.int .i8, 1, 1, .int .i8 0⟩),
  (92, ⟨.slice 5, 1, 24, .slice none 0 0⟩),
  (93, ⟨.other, 1, 8, .nilFunc⟩),
  (97, ⟨.arr 3 2, 3, 24, .agg #[.int .i64 0, .int .i64 0, .int .i64 0]⟩)]
set_option maxHeartbeats 2000000 in
set_option maxRecDepth 100000 in
theorem T0_ok : TOk Pr T0 := by
  refine .cons ⟨?_, ?_, ?_⟩ (.cons ⟨?_, ?_, ?_⟩ (.cons ⟨?_, ?_, ?_⟩ (.cons ⟨?_, ?_, ?_⟩ (.cons ⟨?_, ?_, ?_⟩ (.cons ⟨?_, ?_, ?_⟩ (.cons ⟨?_, ?_, ?_⟩ (.cons ⟨?_, ?_, ?_⟩ (.cons ⟨?_, ?_, ?_⟩ (.cons ⟨?_, ?_, ?_⟩ (.cons ⟨?_, ?_, ?_⟩ (.cons ⟨?_, ?_, ?_⟩ (.cons ⟨?_, ?_, ?_⟩ (.cons ⟨?_, ?_, ?_⟩ (.cons ⟨?_, ?_, ?_⟩ (.cons ⟨?_, ?_, ?_⟩ (.cons ⟨?_, ?_, ?_⟩ (.cons ⟨?_, ?_, ?_⟩ (.cons ⟨?_, ?_, ?_⟩ (.cons ⟨?_, ?_, ?_⟩ (.cons ⟨?_, ?_, ?_⟩ (.cons ⟨?_, ?_, ?_⟩ (.cons ⟨?_, ?_, ?_⟩ (.cons ⟨?_, ?_, ?_⟩ (.nil _)))))))))))))))))))))))) <;> kernel_rfl
end Go.Proofs.Ytlbpjklpmphdpaa.Abs
