import Derived.Test.YtheoapoddmmahaaGreatG5
set_option linter.unusedVariables false
set_option linter.unusedSimpArgs false
namespace Go.Proofs.YtheoapoddmmahaaGreat.Abs
open Go Go.RowKit
noncomputable abbrev s_I_LowestCase_1 : Spec (List Bk × List Int × Int) where
  args := fun x => [.sl 1 (i64s x.2.1), .rptr 1 [[.sl 8 (bks x.1)]] 0 0, .rptr 1 [[.val (.int .i64 x.2.2)]] 0 0]
  pre := fun x => PreB x.1 x.2.2 ∧ QOk x.1 x.2.1
  res := fun x => .val (.int .i64 (nedI x.1 x.2.2 x.2.1))

set_option maxRecDepth 20000 in
set_option maxHeartbeats 1000000 in
theorem ok_I_LowestCase_1 : FnOk Pr 55 s_I_LowestCase_1 := by
 refine fn_ok 3 0 T0_ok Go.Proofs.Tryz.func55 rfl (enters_of Go.Proofs.Tryz.func55 rfl rfl) (fun _ => rfl) (fun _ => rfl) (fun _ => rfl) ?_
 rintro ⟨bs, q, wide⟩ ⟨hpb, hq⟩ C hP hN hm hG
 change awp C _ _ ⟨[(0, .sl 1 (i64s q)), (1, .rptr 1 [[.sl 8 (bks bs)]] 0 0), (2, .rptr 1 [[.val (.int .i64 wide)]] 0 0)], [], 0⟩
 simp only at hpb hq
 refine awp_seq ?_
 refine r1 T0_ok hP hm hN ?_
 refine g1 ?_
 refine awp_seq ?_
 refine r1 T0_ok hP hm hN ?_
 iterate 3 refine g1 ?_
 refine gc1 ?_ (call1 ok_I_needed (bs, q, wide) [] (hpre := by (try dsimp only); exact ⟨hpb, hq⟩))
 refine g1 ?_
 refine awp_ret ?_
 refine fin_mk [] rfl rfl ?_ trivial (by decide)
 rfl

theorem does_low {bs : List Bk} {wide : Int} (h : PreB bs wide) : Does Pr (fun q : List Int => [.sl 1 (i64s q)]) (QOk bs) (fun q => .val (.int .i64 (nedI bs wide q))) (.clo (.func 55) [.rptr 1 [[.sl 8 (bks bs)]] 0 0, .rptr 1 [[.val (.int .i64 wide)]] 0 0]) :=
  ⟨55, [], [.rptr 1 [[.sl 8 (bks bs)]] 0 0, .rptr 1 [[.val (.int .i64 wide)]] 0 0], (s_I_LowestCase_1).comap (fun q => (bs, q, wide)), rfl, rfl, rfl, ok_I_LowestCase_1.comap _, fun _ => rfl, fun _ hq => ⟨h, hq⟩, fun _ => rfl, fun _ => rfl, fun _ => rfl, fun _ => rfl⟩

end Go.Proofs.YtheoapoddmmahaaGreat.Abs

