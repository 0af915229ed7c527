import Derived.Test.YtpdkhlpmiblflaaGreatQ1
set_option linter.unusedVariables false
set_option linter.unusedSimpArgs false
namespace Go.Proofs.YtpdkhlpmiblflaaGreat.Abs
open Go Go.RowKit

theorem wU64s {n : Int} (h1 : 0 ≤ n) (h2 : n ≤ 18446744073709551615) : IntKind.u64.wrap n = n := by
  unfold IntKind.wrap
  simp [IntKind.bits, IntKind.signed]
  omega
theorem and255 (x : Int) : 0 ≤ IntKind.i64.wrap (IntKind.u64.wrap ((BitVec.ofInt 64 x &&& BitVec.ofInt 64 255).toNat : Nat)) ∧ IntKind.i64.wrap (IntKind.u64.wrap ((BitVec.ofInt 64 x &&& BitVec.ofInt 64 255).toNat : Nat)) ≤ 255 := by
  have h : (BitVec.ofInt 64 x &&& BitVec.ofInt 64 255).toNat ≤ 255 := by
    rw [BitVec.toNat_and]
    exact Nat.and_le_right
  generalize (BitVec.ofInt 64 x &&& BitVec.ofInt 64 255).toNat = q at h
  have e : IntKind.u64.wrap (q : Int) = q := wU64s (by omega) (by omega)
  rw [e, wI64 (by omega) (by omega)]
  omega
theorem nxB_b {s : Src} (h : okSrc s) : 0 ≤ nxB s ∧ nxB s ≤ 255 := by
  unfold nxB
  split
  · rename_i hlt
    exact h.1 _ (getD_mem' (d := 0) (by have := h.2.2.1; simp only [decide_eq_true_eq] at hlt; omega))
  · omega
theorem nxV_b {s : Src} (h : okSrc s) : 0 ≤ nxV s ∧ nxV s ≤ 255 := by
  unfold nxV
  split
  · exact nxB_b h
  · exact and255 _
end Go.Proofs.YtpdkhlpmiblflaaGreat.Abs

