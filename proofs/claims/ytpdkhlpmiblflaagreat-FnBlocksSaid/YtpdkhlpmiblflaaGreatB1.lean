import Derived.Test.YtpdkhlpmiblflaaGreatQ8
set_option linter.unusedVariables false
set_option linter.unusedSimpArgs false
namespace Go.Proofs.YtpdkhlpmiblflaaGreat.Abs
open Go Go.RowKit
noncomputable def fewC (code : List Int) : List Bk := (lstC code).take 6
theorem fewC_ok {code : List Int} (h : (∀ x ∈ code, 0 ≤ x ∧ x ≤ 255) ∧ code.length ≤ 1048576) : (∀ b ∈ fewC code, isBk b) ∧ validBs (fewC code) = true ∧ (fewC code).length ≤ 6 := by
  obtain ⟨h1, h2⟩ := lstC_ok h
  have hl : (fewC code).length ≤ 6 := by rw [fewC, List.length_take]; omega
  refine ⟨fun b hb => (h1 b (List.mem_of_mem_take hb)).1, ?_, hl⟩
  rw [validBs, Bool.and_eq_true, List.all_eq_true, decide_eq_true_eq]
  exact ⟨by omega, fun b hb => (h1 b (List.mem_of_mem_take hb)).2⟩

noncomputable abbrev s_S_P6Few : Spec (List Int) where
  args := fun code => [.sl 1 (ints .u8 code)]
  pre := fun code => (∀ x ∈ code, 0 ≤ x ∧ x ≤ 255) ∧ code.length ≤ 1048576
  res := fun code => .sl 8 (bks (fewC code))

set_option maxRecDepth 20000 in
set_option maxHeartbeats 1000000 in
theorem ok_S_P6Few : FnOk Pr 5 s_S_P6Few := by
 refine fn_ok0 1 T0_ok Go.Proofs.Tryz.func5 rfl (enters_of Go.Proofs.Tryz.func5 rfl rfl) (fun _ => rfl) (fun _ => rfl) (fun _ => rfl) ?_
 rintro code hb C hP hN hm hG hS0
 change awp C _ _ ⟨[(0, .sl 1 (ints .u8 code))], [], 0⟩
 have hsrc := okSrc_from hb
 refine awp_seq ?_
 refine r1 T0_ok hP hm hN ?_
 refine g1 ?_
 refine awp_seq ?_
 refine r1 T0_ok hP hm hN ?_
 refine g1 ?_
 refine gc1 ?_ (call_from code hb rfl rfl rfl)
 refine gc1 ?_ (call_drawn (code, (0 : Int), (0 : Int)) (hsrc.le (by omega)) rfl rfl rfl rfl)
 refine g1 ?_
 refine awp_seq ?_
 refine awp_seq ?_
 refine awp_weak (show Weak C _ ⟨[(3, .sl 8 (bks (lstC code)))], [], 2⟩ from Weak.trans (weak_frz 1 hS0 hG rfl (.inl rfl)) (Weak.trans (weak_drop 0) (weak_sl (sub_cons rfl sub_nil)))) ?_
 have hll : (lstC code).length ≤ 11 := (lstC_ok hb).2
 refine r1 T0_ok hP hm hN ?_
 iterate 3 refine g1 ?_
 refine awp_cond rfl (fun hc0 => ?_) (fun hc0 => ?_)
 ·
  have h8 : (lstC code).length > 6 := by simp at hc0; omega
  refine r1 T0_ok hP hm hN ?_
  refine g1 ?_
  refine g1 ?_ (hpre := by exact ⟨rfl, by omega, by omega, by simp only [List.length_map]; omega⟩) (hst := by simp +decide (disch := omega) only [nrm, lk_nrm, dc_nrm, mk_nrm, mf_nrm, ti_nrm, ls_nrm, mp_nrm, nb_nrm, hset, pick_and, pick_or, ↓reduceIte, Nat.reduceAdd, wI64, wI32, wI16, wI8, wU8, List.length_map, Int.toNat_natCast, xn1, xn2, List.drop_zero, Nat.sub_zero, Int.toNat_zero, ← List.map_take]; rfl)
  refine g1 ?_
  refine awp_seq ?_
  refine r1 T0_ok hP hm hN ?_
  iterate 2 refine g1 ?_
  refine awp_ret ?_
  refine fin_mk [] rfl rfl ?_ trivial (by decide)
  rfl
 ·
  have h8 : ¬ (lstC code).length > 6 := by simp at hc0; omega
  have hr : fewC code = lstC code := List.take_of_length_le (by omega)
  refine awp_skip ?_
  refine awp_seq ?_
  refine r1 T0_ok hP hm hN ?_
  iterate 2 refine g1 ?_
  refine awp_ret ?_
  refine fin_mk [] rfl rfl ?_ trivial (by decide)
  show D.sl 8 (bks (fewC code)) = _
  rw [hr]
  rfl

theorem call_few {o : Oper} {cf : Operand} {args : Array Operand} {tys : Array TypeId} {ev : Operand → D} {hp : HP} {nx : Nat} (code : List Int) (hpre : (∀ x ∈ code, 0 ≤ x ∧ x ≤ 255) ∧ code.length ≤ 1048576) (ho : o.op = .call ⟨.value cf, args, tys⟩) (hcf : fnParts (ev cf) = some (.func 5, [], [])) (hargs : args.toList.map ev = [.sl 1 (ints .u8 code)]) :
    OpRel Pr o ev hp nx { d := .sl 8 (bks (fewC code)), new := [], upd := [] } :=
  OpRel.callF ok_S_P6Few code [] (by simp) (o := o) (hp := hp) (nx := nx) (d := .sl 8 (bks (fewC code))) (K0 := []) ho hcf hpre (by rw [List.nil_append, List.append_nil, hargs]; rfl) objsG_nil rfl rfl (fun o ho => by cases ho)
noncomputable def pickC (code : List Int) (n : Int) : Int := pkV (code, 0, 0) n
theorem pickC_b {code : List Int} (h : (∀ x ∈ code, 0 ≤ x ∧ x ≤ 255) ∧ code.length ≤ 1048576) {n : Int} (hn : 1 ≤ n) : 0 ≤ pickC code n ∧ pickC code n < n := pkV_b ((okSrc_from h).le (by omega)) hn

noncomputable abbrev s_S_P6Pick : Spec (List Int × Int) where
  args := fun x => [.sl 1 (ints .u8 x.1), .val (.int .i64 x.2)]
  pre := fun x => ((∀ y ∈ x.1, 0 ≤ y ∧ y ≤ 255) ∧ x.1.length ≤ 1048576) ∧ 0 ≤ x.2 ∧ x.2 ≤ 1000
  res := fun x => .val (.int .i64 (pickC x.1 x.2))

set_option maxRecDepth 20000 in
set_option maxHeartbeats 1000000 in
theorem ok_S_P6Pick : FnOk Pr 18 s_S_P6Pick := by
 refine fn_ok 2 0 T0_ok Go.Proofs.Tryz.func18 rfl (enters_of Go.Proofs.Tryz.func18 rfl rfl) (fun _ => rfl) (fun _ => rfl) (fun _ => rfl) ?_
 rintro ⟨code, n⟩ ⟨hb, h0, h1⟩ C hP hN hm hG
 change awp C _ _ ⟨[(0, .sl 1 (ints .u8 code)), (1, .val (.int .i64 n))], [], 0⟩
 simp only at hb h0 h1
 have hsrc := okSrc_from hb
 refine awp_seq ?_
 refine r1 T0_ok hP hm hN ?_
 refine g1 ?_
 refine awp_seq ?_
 refine r1 T0_ok hP hm hN ?_
 refine g1 ?_
 refine gc1 ?_ (call_from code hb rfl rfl rfl)
 refine g1 ?_
 refine gc1 ?_ (call_pick (code, (0 : Int), (0 : Int)) n ⟨hsrc.le (by omega), by omega, by omega⟩ rfl rfl rfl rfl)
 refine g1 ?_
 refine awp_ret ?_
 refine fin_mk [] rfl rfl ?_ trivial (by decide)
 rfl
end Go.Proofs.YtpdkhlpmiblflaaGreat.Abs

