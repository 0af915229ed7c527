import Derived.Test.YtlcacfjikebmgaaProg
import Derived.Test.YtlcacfjikebmgaaAbsC
import Derived.Shelf.Abstract
set_option linter.unusedVariables false
set_option linter.unusedSimpArgs false
namespace Go.Proofs.Ytlcacfjikebmgaa.Abs
open Go Go.RowKit
noncomputable abbrev Pr := Go.Proofs.Try.prog
theorem Pr_mix : Pr.follows .mixedOrders = true := by kernel_rfl
set_option maxRecDepth 100000 in
def T0 : TT := [
  (2, ⟨.int .i64, 1, 8, .int .i64 0⟩),
  (3, ⟨.int .i64, 1, 8, .int .i64 0⟩),
  (4, ⟨.bool, 1, 1, .bool false⟩),
  (5, ⟨.int .u8, 1, 1, .int .u8 0⟩),
  (9, ⟨.str, 1, 16, .string ⟨#[]⟩⟩),
  (22, ⟨.int .i16, 1, 2, .int .i16 0⟩),
  (24, ⟨.struct [(0, 22), (1, 22), (2, 22)], 3, 6, .agg #[.int .i16 0, .int .i16 0, .int .i16 0]⟩),
  (25, ⟨.slice 52, 1, 24, .slice none 0 0⟩),
  (27, ⟨.slice 2, 1, 24, .slice none 0 0⟩),
  (30, ⟨.struct [(0, 22), (1, 22), (2, 22)], 3, 6, .agg #[.int .i16 0, .int .i16 0, .int .i16 0]⟩),
  (32, ⟨.slice 50, 1, 24, .slice none 0 0⟩),
  (48, ⟨.arr 3 5, 3, 3, .agg #[.int .u8 0, .int .u8 0, .int .u8 0]⟩),
  (50, ⟨.struct [(0, 22), (1, 48), (4, 22), (5, 22), (6, 22), (7, 22)], 8, 14, .agg #[.int .i16 0, .int .u8 0, .int .u8 0, .int .u8 0, .int .i16 0, .int .i16 0, .int .i16 0, .int .i16 0]⟩),
  (52, ⟨.struct [(0, 22), (1, 48), (4, 22), (5, 22), (6, 22), (7, 22)], 8, 14, .agg #[.int .i16 0, .int .u8 0, .int .u8 0, .int .u8 0, .int .i16 0, .int .i16 0, .int .i16 0, .int .i16 0]⟩),
  (71, ⟨.other, 1, 8, .nilFunc⟩),
  (72, ⟨.slice 27, 1, 24, .slice none 0 0⟩),
  (78, ⟨.other, 1, 8, .nilFunc⟩),
  (83, ⟨.other, 1, 8, .nilFunc⟩),
  (86, ⟨.other, 1, 8, .nilFunc⟩),
  (91, ⟨.ptr 50, 1, 8, .pointer none⟩),
  (98, ⟨.other, 1, 8, .nilFunc⟩),
  (105, ⟨.slice 5, 1, 24, .slice none 0 0⟩),
  (106, ⟨.other, 1, 8, .nilFunc⟩),
  (107, ⟨.int .u64, 1, 8, .int .u64 0⟩),
  (113, ⟨.int .u32, 1, 4, .int .u32 0⟩),
  (116, ⟨.int .u64, 1, 8, .int .u64 0⟩),
  (124, ⟨.int .i64, 1, 8, .int .i64 0⟩),
  (134, ⟨.int .u64, 1, 8, .int .u64 0⟩),
  (138, ⟨.ptr 3, 1, 8, .pointer none⟩)]
set_option maxHeartbeats 2000000 in
set_option maxRecDepth 100000 in
theorem T0_ok : TOk Pr T0 := by
  refine .cons ⟨?_, ?_, ?_⟩ (.cons ⟨?_, ?_, ?_⟩ (.cons ⟨?_, ?_, ?_⟩ (.cons ⟨?_, ?_, ?_⟩ (.cons ⟨?_, ?_, ?_⟩ (.cons ⟨?_, ?_, ?_⟩ (.cons ⟨?_, ?_, ?_⟩ (.cons ⟨?_, ?_, ?_⟩ (.cons ⟨?_, ?_, ?_⟩ (.cons ⟨?_, ?_, ?_⟩ (.cons ⟨?_, ?_, ?_⟩ (.cons ⟨?_, ?_, ?_⟩ (.cons ⟨?_, ?_, ?_⟩ (.cons ⟨?_, ?_, ?_⟩ (.cons ⟨?_, ?_, ?_⟩ (.cons ⟨?_, ?_, ?_⟩ (.cons ⟨?_, ?_, ?_⟩ (.cons ⟨?_, ?_, ?_⟩ (.cons ⟨?_, ?_, ?_⟩ (.cons ⟨?_, ?_, ?_⟩ (.cons ⟨?_, ?_, ?_⟩ (.cons ⟨?_, ?_, ?_⟩ (.cons ⟨?_, ?_, ?_⟩ (.cons ⟨?_, ?_, ?_⟩ (.cons ⟨?_, ?_, ?_⟩ (.cons ⟨?_, ?_, ?_⟩ (.cons ⟨?_, ?_, ?_⟩ (.cons ⟨?_, ?_, ?_⟩ (.cons ⟨?_, ?_, ?_⟩ (.nil _))))))))))))))))))))))))))))) <;> kernel_rfl
end Go.Proofs.Ytlcacfjikebmgaa.Abs
