import Derived.Test.YtpdkhlpmiblflaaGreatQ2
set_option linter.unusedVariables false
set_option linter.unusedSimpArgs false
namespace Go.Proofs.YtpdkhlpmiblflaaGreat.Abs
open Go Go.RowKit
theorem call_next {o : Oper} {cf : Operand} {args : Array Operand} {tys : Array TypeId} {ev : Operand → D} {hp : HP} {nx h : Nat} (s : Src)  (hpre : okSrc s) (ho : o.op = .call ⟨.value cf, args, tys⟩) (hcf : fnParts (ev cf) = some (.func 71, [], [])) (hargs : args.toList.map ev = [.ptr h 0 0]) (hl : lk h hp = some ⟨80, 3, false, [[.sl 1 (ints .u8 (s).1), .val (.int .i64 (s).2.1), .val (.int .u64 (s).2.2)]]⟩) :
    OpRel Pr o ev hp nx { d := .val (.int .i64 (nxV s)), new := [], upd := [(h, ⟨80, 3, false, [[.sl 1 (ints .u8 (nxS s).1), .val (.int .i64 (nxS s).2.1), .val (.int .u64 (nxS s).2.2)]]⟩)] } := by
  have e := OpRel.callF ok_S_l00Src_next s [h] (by simp) (o := o) (nx := nx) (d := .val (.int .i64 (nxV s))) (K0 := [h]) ho hcf hpre (by rw [List.nil_append, List.append_nil, hargs]; rfl) (objsG_cons hl rfl rfl rfl (.inr (.inl rfl)) objsG_nil) rfl rfl (fm_cons (fun x hx d hd => by
    simp only [List.mem_singleton] at hx
    subst hx
    simp only [List.mem_cons, List.not_mem_nil, or_false] at hd
    rcases hd with rfl | rfl | rfl <;> exact ⟨_, rfl⟩) fm_nil)
  exact e
end Go.Proofs.YtpdkhlpmiblflaaGreat.Abs

