import Derived.Test.YtkfbpfkomppefaaW13
set_option linter.unusedVariables false
set_option linter.unusedSimpArgs false
namespace Go.Proofs.Ytkfbpfkomppefaa.Abs
open Go Go.RowKit
noncomputable abbrev s_slices_Clone_I_Book_I_Book : Spec (List Bk) where
  args := fun xs => [.sl 8 (bks xs)]
  pre := fun xs => xs.length ≤ 1048576
  new := fun xs => [⟨60, 8, false, bks xs⟩]
  res := fun xs => .own 0

set_option maxRecDepth 20000 in
set_option maxHeartbeats 1000000 in
theorem ok_slices_Clone_I_Book_I_Book : FnOk Pr 41 s_slices_Clone_I_Book_I_Book := by
  refine fn_ok 1 0 T0_ok Go.Proofs.Try.func41 rfl (enters_of Go.Proofs.Try.func41 rfl rfl) (fun _ => rfl) (fun _ => rfl) (fun _ => rfl) ?_
  rintro xs hl C hP hN hm hG
  change awp C _ _ ⟨[(0, .sl 8 (bks xs))], [], 0⟩
  have hl : xs.length ≤ 1048576 := hl
  refine awp_seq ?_
  refine r1 T0_ok hP hm hN ?_
  refine g1 ?_
  refine awp_seq ?_
  refine awp_seq ?_
  refine awp_sreg rfl ?_
  refine sg1 T0_ok hP hm hN ?_
  refine sreg_nilcmp T0_ok hP hN (by decide) rfl rfl (fun bz hbz => ?_)
  refine sreg_rest T0_ok hP hm hN ?_
  refine awp_cond rfl (fun hc0 => ?_) (fun hc0 => ?_)
  · skip
    have hxs : xs = [] := by have h := hbz hc0; simpa using h
    subst hxs
    refine awp_seq ?_
    refine r1 T0_ok hP hm hN ?_
    refine g1 ?_
    refine awp_weak (weak_nil 2 60 8 rfl) ?_
    refine awp_ret ?_
    refine fin_mk [0] rfl rfl ?_ (objs_cons rfl rfl rfl rfl rfl (.inl rfl) objs_nil) (by decide)
    rfl
  · skip
    refine awp_skip ?_
    refine awp_seq ?_
    refine r1 T0_ok hP hm hN ?_
    refine g1 ?_
    refine g1 ?_
    refine ga1 ?_
    refine g1 ?_
    refine awp_ret ?_
    refine fin_mk [0] rfl rfl ?_ (objs_cons rfl rfl rfl rfl rfl (.inl rfl) objs_nil) (by decide)
    rfl
end Go.Proofs.Ytkfbpfkomppefaa.Abs
