import Derived.Test.YtheoapoddmmahaaGreatN2
set_option linter.unusedVariables false
set_option linter.unusedSimpArgs false
namespace Go.Proofs.YtheoapoddmmahaaGreat.Abs
open Go Go.RowKit
noncomputable def sub : List Nat → Code → Code
  | [], c => c
  | 0 :: p, .seq a _ => sub p a
  | 1 :: p, .seq _ b => sub p b
  | 0 :: p, .cond _ a _ => sub p a
  | 1 :: p, .cond _ _ b => sub p b
  | 0 :: p, .block _ c => sub p c
  | 0 :: p, .loop c => sub p c
  | _, c => c
theorem bnorm : (∀ d, gd true true d = d) ∧ (∀ d, gd false false d = d) ∧ (∀ d, gd true false d = .val undef) ∧ (∀ d, gd false true d = .val undef) ∧ (∀ a : Int, (a != a) = false) ∧ (∀ a : Int, (a == a) = true) ∧ (!true) = false ∧ (!false) = true ∧ (∀ b, (b || false) = b) ∧ (∀ b, (false || b) = b) ∧ (∀ b, (b && true) = b) ∧ (∀ b, (true && b) = b) ∧ (0 : Int).toNat = 0 :=
  ⟨fun _ => rfl, fun _ => rfl, fun _ => rfl, fun _ => rfl, fun a => by simp, fun a => by simp, rfl, rfl, fun b => by simp, fun b => by simp, fun b => by simp, fun b => by simp, rfl⟩

noncomputable abbrev s_L_FnBestHeights : Spec (List Int × List Int) where
  args := fun x => [.sl 1 (ints .u8 x.1), .sl 1 (ints .u8 x.2)]
  pre := fun x => ((∀ y ∈ x.1, 0 ≤ y ∧ y ≤ 255) ∧ x.1.length ≤ 9223372036854775807) ∧ ((∀ y ∈ x.2, 0 ≤ y ∧ y ≤ 255) ∧ x.2.length ≤ 9223372036854775807)
  res := fun x => .val (.bool true)


set_option maxRecDepth 20000 in
set_option maxHeartbeats 16000000 in
theorem bh40 {C : Ctx} (hP : C.P = Pr) (hm : C.m = 0) (hN : C.N = 2 + (Go.Proofs.Tryz.f3.ntmps - 2)) {Q : Exit → St → Prop} {xs ys : List Int} {a b c : Int} {bs : List Bk} {hs B1 HL : List Int} {B2 : Int} {cn : Nat} {LA NE : List Int} {LB TV : Int} (hQ : ∀ st, Fin T0 (Go.Proofs.Tryz.f3.results).toList s_L_FnBestHeights 0 (xs, ys) st → Q .ret st) (hp : isPegs (a, b, c)) (hv : ∀ b ∈ bs, isBk b) (hl : bs.length ≤ 8) (hB1l : B1.length ≤ 4) (hLAl : LA.length ≤ 6) (hnl : NE.length = B1.length) (hlw1 : (lowR a b c bs 100).1 = LA) (hlw2 : (lowR a b c bs 100).2.1 = LB) (hlw3 : (lowR a b c bs 100).2.2 = 0) (hsh1 : (shelO nedI a b c B1 bs 100).1 = NE) (hsh2 : (shelO nedI a b c B1 bs 100).2 = 0) (htw1 : (tallOfR a b c B1 NE (validH a b c B1)).1 = TV) (htw2 : (tallOfR a b c B1 NE (validH a b c B1)).2 = 0) (hle2 : decide (TV ≥ LB) = true) : awp C (sub [1, 1, 1, 1, 1, 1, 1, 1, 1, 1, 1, 1, 1, 1, 1, 1, 1, 1, 1, 1, 1, 1] (Go.Proofs.Tryz.f3.body.getD .skip)) Q ⟨[(5, .ptr 0 0 0), (6, .sl 8 (bks bs)), (15, .own 4)], [(5, ⟨2, 1, false, i64s (hs)⟩), (4, ⟨2, 1, false, i64s (B1)⟩), (3, ⟨2, 1, false, i64s (B1)⟩), (2, ⟨2, 1, false, i64s (HL)⟩), (1, ⟨2, 1, false, i64s (HL)⟩), (0, ⟨26, 3, true, [[.val (.int .i16 a), .val (.int .i16 b), .val (.int .i16 c)]]⟩)], 6⟩ := by
 have xn2 := bnorm
 have xn1 := And.intro hlw1 (And.intro hlw2 (And.intro hlw3 (And.intro hsh1 (And.intro hsh2 (And.intro htw1 (And.intro htw2 (hle2)))))))
 refine awp_seq ?_
 refine r1 T0_ok hP hm hN ?_
 iterate 2 refine g1 ?_
 refine gc1 ?_ (call1 ok_I_LowestCase ((a, b, c), bs, 100) [] (hpre := by (try dsimp only); exact ⟨hp, ⟨hv, by omega⟩, by omega, by omega⟩))
 iterate 7 refine g1 ?_
 refine awp_seq ?_
 refine r1 T0_ok hP hm hN ?_
 iterate 2 refine g1 ?_
 refine gc1 ?_ (call1 ok_S_LowestCase ((a, b, c), bs, 100) [] (hpre := by (try dsimp only); exact ⟨hp, ⟨hv, by omega⟩, by omega, by omega⟩))
 iterate 7 refine g1 ?_
 refine awp_seq ?_
 refine awp_weak (show Weak C _ ⟨[(5, .ptr 0 0 0), (6, .sl 8 (bks bs)), (15, .own 4), (36, .own 6), (37, .val (.int .i64 LB)), (38, .val (.int .i64 0)), (39, .own 7), (40, .val (.int .i64 LB)), (41, .val (.int .i64 0))], _, _⟩ from weak_sl (sub_cons rfl (sub_cons rfl (sub_cons rfl (sub_cons rfl (sub_cons rfl (sub_cons rfl (sub_cons rfl (sub_cons rfl (sub_cons rfl (sub_nil))))))))))) ?_
 refine r1 T0_ok hP hm hN ?_
 iterate 3 refine g1 ?_
 refine gc1 ?_ (call1 ok_S_ShelvesNeeded ((a, b, c), B1, bs, 100) [] (hpre := by (try dsimp only); exact ⟨hp, by omega, ⟨hv, by omega⟩, by omega, by omega⟩))
 iterate 5 refine g1 ?_
 refine awp_seq ?_
 refine r1 T0_ok hP hm hN ?_
 iterate 3 refine g1 ?_
 refine gc1 ?_ (call1 ok_I_TallOf ((a, b, c), B1, NE) [] (hpre := by (try dsimp only); exact ⟨hp, by omega, by omega⟩))
 iterate 5 refine g1 ?_
 refine awp_seq ?_
 refine awp_weak (show Weak C _ ⟨[(36, .own 6), (37, .val (.int .i64 LB)), (38, .val (.int .i64 0)), (39, .own 7), (40, .val (.int .i64 LB)), (41, .val (.int .i64 0)), (43, .val (.int .i64 0)), (44, .val (.int .i64 TV)), (45, .val (.int .i64 0))], _, _⟩ from weak_sl (sub_cons rfl (sub_cons rfl (sub_cons rfl (sub_cons rfl (sub_cons rfl (sub_cons rfl (sub_cons rfl (sub_cons rfl (sub_cons rfl (sub_nil))))))))))) ?_
 refine r1 T0_ok hP hm hN ?_
 iterate 4 refine g1 ?_
 iterate 2 refine gy1 ?_
 iterate 2 refine g1 ?_
 iterate 2 refine gy1 ?_
 refine gyc1 ?_ (call1 ok_S_A2Same LA [] (hpre := by (try dsimp only); omega))
 iterate 2 refine g1 ?_
 iterate 3 refine gy1 ?_
 iterate 2 refine g1 ?_
 iterate 2 refine gy1 ?_
 iterate 2 refine g1 ?_
 iterate 2 refine gy1 ?_
 iterate 2 refine g1 ?_
 iterate 3 refine gy1 ?_
 iterate 2 refine g1 ?_
 refine awp_ret (hQ _ ?_)
 refine fin_mk [] rfl rfl ?_ trivial (by decide)
 rfl
end Go.Proofs.YtheoapoddmmahaaGreat.Abs

