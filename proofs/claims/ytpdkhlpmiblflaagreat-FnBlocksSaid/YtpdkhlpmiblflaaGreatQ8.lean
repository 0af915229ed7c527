import Derived.Test.YtpdkhlpmiblflaaGreatQ7
set_option linter.unusedVariables false
set_option linter.unusedSimpArgs false
namespace Go.Proofs.YtpdkhlpmiblflaaGreat.Abs
open Go Go.RowKit
noncomputable abbrev s_S_l00From : Spec (List Int) where
  args := fun code => [.sl 1 (ints .u8 code)]
  pre := fun code => (∀ x ∈ code, 0 ≤ x ∧ x ≤ 255) ∧ code.length ≤ 1048576
  new := fun code => [⟨80, 3, false, [[.sl 1 (ints .u8 ((code, (0 : Int), (0 : Int))).1), .val (.int .i64 ((code, (0 : Int), (0 : Int))).2.1), .val (.int .u64 ((code, (0 : Int), (0 : Int))).2.2)]]⟩]
  res := fun code => .ptr 0 0 0

set_option maxRecDepth 20000 in
set_option maxHeartbeats 1000000 in
theorem ok_S_l00From : FnOk Pr 21 s_S_l00From := by
 refine fn_okG 1 0 T0_ok Go.Proofs.Tryz.func21 rfl (enters_of Go.Proofs.Tryz.func21 rfl rfl) (fun _ => rfl) (fun _ => rfl) (fun _ => rfl) ?_
 rintro code hb C hP hN hm hG
 change awp C _ _ ⟨[(0, .sl 1 (ints .u8 code))], [], 0⟩
 refine awp_seq ?_
 refine r1 T0_ok hP hm hN ?_
 refine g1 ?_
 refine awp_seq ?_
 refine r1 T0_ok hP hm hN ?_
 iterate 4 refine g1 ?_
 refine awp_ret ?_
 refine finG_mk [0] rfl rfl rfl ?_ (by decide)
 exact objsG_cons rfl rfl rfl rfl (.inr (.inr (fm_cons rfl fm_nil))) objsG_nil

theorem okSrc_from {code : List Int} (h : (∀ x ∈ code, 0 ≤ x ∧ x ≤ 255) ∧ code.length ≤ 1048576) : okSrcN 1000 (code, (0 : Int), (0 : Int)) := ⟨⟨h.1, h.2, ⟨by simp, by simp⟩, by simp, by simp⟩, by simp⟩
theorem call_from {o : Oper} {cf : Operand} {args : Array Operand} {tys : Array TypeId} {ev : Operand → D} {hp : HP} {nx : Nat} (code : List Int) (hpre : (∀ x ∈ code, 0 ≤ x ∧ x ≤ 255) ∧ code.length ≤ 1048576) (ho : o.op = .call ⟨.value cf, args, tys⟩) (hcf : fnParts (ev cf) = some (.func 21, [], [])) (hargs : args.toList.map ev = [.sl 1 (ints .u8 code)]) :
    OpRel Pr o ev hp nx { d := .ptr nx 0 0, new := [(nx, ⟨80, 3, false, [[.sl 1 (ints .u8 ((code, (0 : Int), (0 : Int))).1), .val (.int .i64 ((code, (0 : Int), (0 : Int))).2.1), .val (.int .u64 ((code, (0 : Int), (0 : Int))).2.2)]]⟩)], upd := [] } := by
  have e := OpRel.callF ok_S_l00From code [] (by simp) (o := o) (hp := hp) (nx := nx) (d := .ptr nx 0 0) (K0 := [nx]) ho hcf hpre (by rw [List.nil_append, List.append_nil, hargs]; rfl) objsG_nil rfl rfl (fm_cons (fun x hx d hd => by
    simp only [List.mem_singleton] at hx
    subst hx
    simp only [List.mem_cons, List.not_mem_nil, or_false] at hd
    rcases hd with rfl | rfl | rfl <;> exact ⟨_, rfl⟩) fm_nil)
  exact e
theorem call_drawn {o : Oper} {cf : Operand} {args : Array Operand} {tys : Array TypeId} {ev : Operand → D} {hp : HP} {nx h : Nat} (s : Src) (hpre : okSrcN 200 s) (ho : o.op = .call ⟨.value cf, args, tys⟩) (hcf : fnParts (ev cf) = some (.func 20, [], [])) (hargs : args.toList.map ev = [.ptr h 0 0]) (hl : lk h hp = some ⟨80, 3, false, [[.sl 1 (ints .u8 (s).1), .val (.int .i64 (s).2.1), .val (.int .u64 (s).2.2)]]⟩) :
    OpRel Pr o ev hp nx { d := .own nx, new := [(nx, ⟨73, 8, false, bks (drwR s).1⟩)], upd := [(h, ⟨80, 3, false, [[.sl 1 (ints .u8 ((drwR s).2).1), .val (.int .i64 ((drwR s).2).2.1), .val (.int .u64 ((drwR s).2).2.2)]]⟩)] } := by
  have e := OpRel.callF ok_S_l01Drawn s [h] (by simp) (o := o) (nx := nx) (d := .own nx) (K0 := [h, nx]) ho hcf hpre (by rw [List.nil_append, List.append_nil, hargs]; rfl) (objsG_cons hl rfl rfl rfl (.inr (.inl rfl)) objsG_nil) rfl rfl (fm_cons (fun x hx d hd => by
    simp only [List.mem_singleton] at hx
    subst hx
    simp only [List.mem_cons, List.not_mem_nil, or_false] at hd
    rcases hd with rfl | rfl | rfl <;> exact ⟨_, rfl⟩) (fm_cons (okF_bks _ _ _ _ _) fm_nil))
  simp only [List.map_cons, List.map_nil, shF_bks] at e
  exact e
noncomputable def lstC (code : List Int) : List Bk := (drwR (code, 0, 0)).1
theorem lstC_ok {code : List Int} (h : (∀ x ∈ code, 0 ≤ x ∧ x ≤ 255) ∧ code.length ≤ 1048576) : DrwOk (lstC code) := drwOk ((okSrc_from h).le (by omega))

noncomputable abbrev s_L_f6big : Spec (List Int) where
  args := fun code => [.sl 1 (ints .u8 code)]
  pre := fun code => code.length ≤ 9223372036854775807
  res := fun code => .val (.bool (decide ((code.length : Int) > 4096)))

set_option maxRecDepth 20000 in
set_option maxHeartbeats 1000000 in
theorem ok_L_f6big : FnOk Pr 4 s_L_f6big := by
 refine fn_ok 1 0 T0_ok Go.Proofs.Tryz.func4 rfl (enters_of Go.Proofs.Tryz.func4 rfl rfl) (fun _ => rfl) (fun _ => rfl) (fun _ => rfl) ?_
 rintro code hl C hP hN hm hG
 change awp C _ _ ⟨[(0, .sl 1 (ints .u8 code))], [], 0⟩
 have hl : code.length ≤ 9223372036854775807 := hl
 refine awp_seq ?_
 refine r1 T0_ok hP hm hN ?_
 refine g1 ?_
 refine awp_seq ?_
 refine r1 T0_ok hP hm hN ?_
 iterate 4 refine g1 ?_
 refine awp_ret ?_
 refine fin_mk [] rfl rfl ?_ trivial (by decide)
 rfl
end Go.Proofs.YtpdkhlpmiblflaaGreat.Abs

