import Derived.Test.YtheoapoddmmahaaGreatP2
set_option linter.unusedVariables false
set_option linter.unusedSimpArgs false
namespace Go.Proofs.YtheoapoddmmahaaGreat.Abs
open Go Go.RowKit

theorem wU64s {n : Int} (h1 : 0 ≤ n) (h2 : n ≤ 18446744073709551615) : IntKind.u64.wrap n = n := by
  unfold IntKind.wrap
  simp [IntKind.bits, IntKind.signed]
  omega
theorem and255 (x : Int) : 0 ≤ IntKind.i64.wrap (IntKind.u64.wrap ((BitVec.ofInt 64 x &&& BitVec.ofInt 64 255).toNat : Nat)) ∧ IntKind.i64.wrap (IntKind.u64.wrap ((BitVec.ofInt 64 x &&& BitVec.ofInt 64 255).toNat : Nat)) ≤ 255 := by
  have h : (BitVec.ofInt 64 x &&& BitVec.ofInt 64 255).toNat ≤ 255 := by
    rw [BitVec.toNat_and]
    exact Nat.and_le_right
  generalize (BitVec.ofInt 64 x &&& BitVec.ofInt 64 255).toNat = q at h
  have e : IntKind.u64.wrap (q : Int) = q := wU64s (by omega) (by omega)
  rw [e, wI64 (by omega) (by omega)]
  omega
theorem nxB_b {s : Src} (h : okSrc s) : 0 ≤ nxB s ∧ nxB s ≤ 255 := by
  unfold nxB
  split
  · rename_i hlt
    exact h.1 _ (getD_mem' (d := 0) (by have := h.2.2.1; simp only [decide_eq_true_eq] at hlt; omega))
  · omega
theorem nxV_b {s : Src} (h : okSrc s) : 0 ≤ nxV s ∧ nxV s ≤ 255 := by
  unfold nxV
  split
  · exact nxB_b h
  · exact and255 _

theorem call_next {o : Oper} {cf : Operand} {args : Array Operand} {tys : Array TypeId} {ev : Operand → D} {hp : HP} {nx h : Nat} (s : Src)  (hpre : okSrc s) (ho : o.op = .call ⟨.value cf, args, tys⟩) (hcf : fnParts (ev cf) = some (.func 94, [], [])) (hargs : args.toList.map ev = [.ptr h 0 0]) (hl : lk h hp = some ⟨87, 3, false, [[.sl 1 (ints .u8 (s).1), .val (.int .i64 (s).2.1), .val (.int .u64 (s).2.2)]]⟩) :
    OpRel Pr o ev hp nx { d := .val (.int .i64 (nxV s)), new := [], upd := [(h, ⟨87, 3, false, [[.sl 1 (ints .u8 (nxS s).1), .val (.int .i64 (nxS s).2.1), .val (.int .u64 (nxS s).2.2)]]⟩)] } := by
  have e := OpRel.callF ok_S_l00Src_next s [h] (by simp) (o := o) (nx := nx) (d := .val (.int .i64 (nxV s))) (K0 := [h]) ho hcf hpre (by rw [List.nil_append, List.append_nil, hargs]; rfl) (objsG_cons hl rfl rfl rfl (.inr (.inl rfl)) objsG_nil) rfl rfl (fm_cons (fun x hx d hd => by
    simp only [List.mem_singleton] at hx
    subst hx
    simp only [List.mem_cons, List.not_mem_nil, or_false] at hd
    rcases hd with rfl | rfl | rfl <;> exact ⟨_, rfl⟩) fm_nil)
  exact e
end Go.Proofs.YtheoapoddmmahaaGreat.Abs

