import Derived.Test.YtheoapoddmmahaaGreatN3a
set_option linter.unusedVariables false
set_option linter.unusedSimpArgs false
namespace Go.Proofs.YtheoapoddmmahaaGreat.Abs
open Go Go.RowKit
set_option maxRecDepth 20000 in
set_option maxHeartbeats 16000000 in
theorem bh34 {C : Ctx} (hP : C.P = Pr) (hm : C.m = 0) (hN : C.N = 2 + (Go.Proofs.Tryz.f3.ntmps - 2)) {Q : Exit → St → Prop} {xs ys : List Int} {a b c : Int} {bs : List Bk} {hs B1 HL : List Int} {B2 : Int} {cn : Nat} {LA NE : List Int} {LB TV : Int} (hQ : ∀ st, Fin T0 (Go.Proofs.Tryz.f3.results).toList s_L_FnBestHeights 0 (xs, ys) st → Q .ret st) (H : BhOk (a, b, c) bs hs) (hHL : htsI a b bs = HL) (hp : isPegs (a, b, c)) (hv : ∀ b ∈ bs, isBk b) (hl : bs.length ≤ 8) (hB1l : B1.length ≤ 4) (htl : HL.length ≤ bs.length) (hn1 : 1 ≤ cn) (hn4 : cn ≤ 4) (hmm : cn ≤ HL.length) (hbl : B1.length = cn) (hdn : 2 ≤ cn → B2 ≤ bestV a b bs (cn - 1)) (hz : (((cn : Int) == 1) && (B1.getD 0 0 != HL.getD ((HL.length : Int) - 1).toNat 0)) = false) (hLAl : LA.length ≤ 6) (hnl : NE.length = B1.length) (hlw1 : (lowR a b c bs 100).1 = LA) (hlw2 : (lowR a b c bs 100).2.1 = LB) (hlw3 : (lowR a b c bs 100).2.2 = 0) (hsh1 : (shelO nedI a b c B1 bs 100).1 = NE) (hsh2 : (shelO nedI a b c B1 bs 100).2 = 0) (htw1 : (tallOfR a b c B1 NE (validH a b c B1)).1 = TV) (htw2 : (tallOfR a b c B1 NE (validH a b c B1)).2 = 0) (hle2 : decide (TV ≥ LB) = true) : awp C (sub [1, 1, 1, 1, 1, 1, 1, 1, 1, 1, 1, 1, 1, 1, 1, 1, 1, 1, 1, 1] (Go.Proofs.Tryz.f3.body.getD .skip)) Q ⟨[(5, .ptr 0 0 0), (6, .sl 8 (bks bs)), (7, .val (.int .i64 ((cn : Nat) : Int))), (10, .own 2), (14, .val (.int .i64 0)), (15, .own 4), (16, .val (.int .i64 B2))], [(5, ⟨2, 1, false, i64s (hs)⟩), (4, ⟨2, 1, false, i64s (B1)⟩), (3, ⟨2, 1, false, i64s (B1)⟩), (2, ⟨2, 1, false, i64s (HL)⟩), (1, ⟨2, 1, false, i64s (HL)⟩), (0, ⟨26, 3, true, [[.val (.int .i16 a), .val (.int .i16 b), .val (.int .i16 c)]]⟩)], 6⟩ := by
 have xn2 := bnorm
 have xn1 := hbl
 refine awp_seq ?_
 refine awp_seq ?_
 refine r1 T0_ok hP hm hN ?_
 iterate 2 refine g1 ?_
 refine awp_joinW (st1 := ⟨[(5, .ptr 0 0 0), (6, .sl 8 (bks bs)), (7, .val (.int .i64 ((cn : Nat) : Int))), (10, .own 2), (15, .own 4)], [(5, ⟨2, 1, false, i64s (hs)⟩), (4, ⟨2, 1, false, i64s (B1)⟩), (3, ⟨2, 1, false, i64s (B1)⟩), (2, ⟨2, 1, false, i64s (HL)⟩), (1, ⟨2, 1, false, i64s (HL)⟩), (0, ⟨26, 3, true, [[.val (.int .i16 a), .val (.int .i16 b), .val (.int .i16 c)]]⟩)], 6⟩) ?_ ?_
 ·
  refine awp_cond rfl (fun hc9 => ?_) (fun hc9 => ?_)
  ·
   have hcn : 2 ≤ cn := by simp at hc9; omega
   have hbd := H.bst (n := cn - 1) (by omega) (by omega)
   rw [if_neg (by rw [hHL]; omega), show ((cn - 1 : Nat) : Int) = (cn : Int) - 1 by omega] at hbd
   have hdn2 := hdn hcn
   obtain ⟨⟨D1, D2, D3⟩, hD⟩ : ∃ q, bstR a b c bs ((cn : Int) - 1) = q := ⟨_, rfl⟩
   rw [hD] at hbd
   have e2 : D2 = bestV a b bs (cn - 1) := (Prod.mk.inj (Prod.mk.inj hbd).2).1
   have e3 : D3 = 0 := (Prod.mk.inj (Prod.mk.inj hbd).2).2
   rw [← e2] at hdn2
   clear e2 hbd
   subst e3
   have hq1 : (bstR a b c bs ((cn : Int) - 1)).1 = D1 := by rw [hD]
   have hq2 : (bstR a b c bs ((cn : Int) - 1)).2.1 = D2 := by rw [hD]
   have hq3 : (bstR a b c bs ((cn : Int) - 1)).2.2 = 0 := by rw [hD]
   have hq4 : decide (D2 < B2) = false := decide_eq_false (by omega)
   have xn1 := And.intro hq1 (And.intro hq2 (And.intro hq3 (And.intro hq4 xn1)))
   refine awp_seq ?_
   refine r1 T0_ok hP hm hN ?_
   iterate 4 refine g1 ?_
   refine gc1 ?_ (call1 ok_I_BestHeights ((a, b, c), bs, (cn : Int) - 1) [] (hpre := by (try dsimp only); exact ⟨hp, ⟨hv, by omega⟩, by omega, by omega⟩))
   iterate 7 refine g1 ?_
   refine awp_seq ?_
   refine r1 T0_ok hP hm hN ?_
   iterate 3 refine g1 ?_
   iterate 3 refine gy1 ?_
   refine g1 ?_
   refine awp_cond rfl (fun hc10 => ?_) (fun hc10 => ?_)
   ·
    exfalso
    exact absurd hc10 (by decide)
   ·
    refine awp_skip ?_
    exact ⟨rfl, by first | exact weak_sl (sub_cons rfl (sub_cons rfl (sub_cons rfl (sub_cons rfl (sub_cons rfl (sub_nil)))))) | exact Weak.trans (weak_drop 6) (Weak.trans (weak_nx (nx' := 6) (by omega) (by rfl)) (weak_sl (sub_cons rfl (sub_cons rfl (sub_cons rfl (sub_cons rfl (sub_cons rfl (sub_nil))))))))⟩
  ·
   refine awp_skip ?_
   exact ⟨rfl, by first | exact weak_sl (sub_cons rfl (sub_cons rfl (sub_cons rfl (sub_cons rfl (sub_cons rfl (sub_nil)))))) | exact Weak.trans (weak_drop 6) (Weak.trans (weak_nx (nx' := 6) (by omega) (by rfl)) (weak_sl (sub_cons rfl (sub_cons rfl (sub_cons rfl (sub_cons rfl (sub_cons rfl (sub_nil))))))))⟩
 ·
  refine awp_seq ?_
  refine awp_seq ?_
  refine awp_draw T0_ok hP hm hN Pr_mix [0, 1, 2, 3, 4, 5, 6, 7, 8, 9, 10, 11] [] _ rfl (by rfl) ?_
  iterate 3 refine d1 T0_ok ?_
  iterate 10 refine dg1 T0_ok ?_
  refine d1 T0_ok ?_
  refine dreg_nil ?_
  refine awp_cond rfl (fun hc11 => ?_) (fun hc11 => ?_)
  ·
   exfalso
   rw [hz] at hc11
   simp at hc11
  ·
   refine awp_skip ?_
   exact awp_weak (show Weak C _ ⟨[(5, .ptr 0 0 0), (6, .sl 8 (bks bs)), (15, .own 4)], _, _⟩ from weak_sl (sub_cons rfl (sub_cons rfl (sub_cons rfl (sub_nil))))) (bh40 hP hm hN (fun st h => hQ st h) (xs := xs) (ys := ys) (B2 := B2) (cn := cn) (HL := HL) hp hv hl hB1l hLAl hnl hlw1 hlw2 hlw3 hsh1 hsh2 htw1 htw2 hle2)
end Go.Proofs.YtheoapoddmmahaaGreat.Abs

