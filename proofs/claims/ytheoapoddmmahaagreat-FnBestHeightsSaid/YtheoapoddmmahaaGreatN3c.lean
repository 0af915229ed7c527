import Derived.Test.YtheoapoddmmahaaGreatN3b
set_option linter.unusedVariables false
set_option linter.unusedSimpArgs false
namespace Go.Proofs.YtheoapoddmmahaaGreat.Abs
open Go Go.RowKit
set_option maxRecDepth 20000 in
set_option maxHeartbeats 16000000 in
theorem bh26 {C : Ctx} (hP : C.P = Pr) (hm : C.m = 0) (hN : C.N = 2 + (Go.Proofs.Tryz.f3.ntmps - 2)) {Q : Exit → St → Prop} {xs ys : List Int} {a b c : Int} {bs : List Bk} {hs B1 HL : List Int} {B2 : Int} {cn : Nat} {LA NE : List Int} {LB TV : Int} (hQ : ∀ st, Fin T0 (Go.Proofs.Tryz.f3.results).toList s_L_FnBestHeights 0 (xs, ys) st → Q .ret st) (H : BhOk (a, b, c) bs hs) (hHL : htsI a b bs = HL) (hp : isPegs (a, b, c)) (hv : ∀ b ∈ bs, isBk b) (hl : bs.length ≤ 8) (hB1l : B1.length ≤ 4) (htl : HL.length ≤ bs.length) (hn1 : 1 ≤ cn) (hn4 : cn ≤ 4) (hmm : cn ≤ HL.length) (hbl : B1.length = cn) (hbm : ∀ x ∈ B1, hasB HL x = true) (hbw1 : (wasteO a b c B1 bs).1 = B2) (hbw2 : (wasteO a b c B1 bs).2 = 0) (hdn : 2 ≤ cn → B2 ≤ bestV a b bs (cn - 1)) (hz : (((cn : Int) == 1) && (B1.getD 0 0 != HL.getD ((HL.length : Int) - 1).toNat 0)) = false) (hLAl : LA.length ≤ 6) (hnl : NE.length = B1.length) (hlw1 : (lowR a b c bs 100).1 = LA) (hlw2 : (lowR a b c bs 100).2.1 = LB) (hlw3 : (lowR a b c bs 100).2.2 = 0) (hsh1 : (shelO nedI a b c B1 bs 100).1 = NE) (hsh2 : (shelO nedI a b c B1 bs 100).2 = 0) (htw1 : (tallOfR a b c B1 NE (validH a b c B1)).1 = TV) (htw2 : (tallOfR a b c B1 NE (validH a b c B1)).2 = 0) (hle2 : decide (TV ≥ LB) = true) : awp C (sub [1, 1, 1, 1, 1, 1, 1, 1, 1, 1, 1, 1, 1, 1, 1, 1, 1] (Go.Proofs.Tryz.f3.body.getD .skip)) Q ⟨[(5, .ptr 0 0 0), (6, .sl 8 (bks bs)), (7, .val (.int .i64 ((cn : Nat) : Int))), (10, .own 2), (14, .val (.int .i64 0)), (15, .own 4), (16, .val (.int .i64 B2))], [(5, ⟨2, 1, false, i64s (hs)⟩), (4, ⟨2, 1, false, i64s (B1)⟩), (3, ⟨2, 1, false, i64s (B1)⟩), (2, ⟨2, 1, false, i64s (HL)⟩), (1, ⟨2, 1, false, i64s (HL)⟩), (0, ⟨26, 3, true, [[.val (.int .i16 a), .val (.int .i16 b), .val (.int .i16 c)]]⟩)], 6⟩ := by
 have xn2 := bnorm
 have xn1 := And.intro hbl (And.intro hbw1 (And.intro hbw2 (hbm)))
 refine awp_seq ?_
 refine r1 T0_ok hP hm hN ?_
 iterate 3 refine g1 ?_
 refine gc1 ?_ (call1 ok_I_WasteOf ((a, b, c), B1, bs) [] (hpre := by (try dsimp only); exact ⟨hp, by omega, hv, by omega⟩))
 iterate 5 refine g1 ?_
 refine awp_seq ?_
 refine awp_seq ?_
 refine r1 T0_ok hP hm hN ?_
 iterate 3 refine g1 ?_
 iterate 3 refine gy1 ?_
 iterate 2 refine g1 ?_
 iterate 4 refine gy1 ?_
 refine g1 ?_
 refine awp_cond rfl (fun hc6 => ?_) (fun hc6 => ?_)
 ·
  exfalso
  exact absurd hc6 (by decide)
 ·
  refine awp_skip ?_
  refine awp_seq ?_
  refine awp_seq ?_
  refine r1 T0_ok hP hm hN ?_
  refine g1 ?_
  refine awp_block ?_
  refine awp_loop (fun n st => ∃ i : Nat, i ≤ cn ∧ n = cn - i ∧ st = ⟨[(32, .val (.int .i64 ((i : Nat) : Int))), (5, .ptr 0 0 0), (6, .sl 8 (bks bs)), (7, .val (.int .i64 ((cn : Nat) : Int))), (10, .own 2), (14, .val (.int .i64 0)), (15, .own 4), (16, .val (.int .i64 B2))], [(5, ⟨2, 1, false, i64s (hs)⟩), (4, ⟨2, 1, false, i64s (B1)⟩), (3, ⟨2, 1, false, i64s (B1)⟩), (2, ⟨2, 1, false, i64s (HL)⟩), (1, ⟨2, 1, false, i64s (HL)⟩), (0, ⟨26, 3, true, [[.val (.int .i16 a), .val (.int .i16 b), .val (.int .i16 c)]]⟩)], 6⟩) (cn) ⟨_, weak_sl (sub_cons rfl (sub_cons rfl (sub_cons rfl (sub_cons rfl (sub_cons rfl (sub_cons rfl (sub_cons rfl (sub_cons rfl (sub_nil))))))))), 0, by omega, rfl, rfl⟩ ?_
  rintro n st ⟨i, hii, hni, rfl⟩
  refine awp_seq ?_
  refine awp_seq ?_
  refine r1 T0_ok hP hm hN ?_
  iterate 4 refine g1 ?_
  refine awp_cond rfl (fun hc7 => ?_) (fun hc7 => ?_)
  ·
   have hlti : i < cn := by simpa using hc7
   have hbh := hbm _ (getD_mem' (d := 0) (show i < B1.length by omega))
   have xn1 := And.intro hbh xn1
   refine awp_skip ?_
   refine awp_seq ?_
   refine awp_block ?_
   refine awp_seq ?_
   refine r1 T0_ok hP hm hN ?_
   iterate 5 refine g1 ?_
   refine gc1 ?_ (call1 ok_S_A2Has (_, _) [] (hpre := by (try dsimp only); omega))
   refine g1 ?_
   refine awp_cond rfl (fun hc8 => ?_) (fun hc8 => ?_)
   ·
    exfalso
    exact absurd hc8 (by decide)
   ·
    refine awp_skip ?_
    refine r1 T0_ok hP hm hN ?_
    iterate 3 refine g1 ?_
    refine ⟨cn - (i + 1), _, by omega, weak_sl (sub_cons rfl (sub_cons rfl (sub_cons rfl (sub_cons rfl (sub_cons rfl (sub_cons rfl (sub_cons rfl (sub_cons rfl (sub_nil))))))))), i + 1, by omega, rfl, rfl⟩
  ·
   have hgei : ¬ i < cn := by simpa using hc7
   have heqi : i = cn := by omega
   refine awp_exit ?_
   repeat refine thenA_exit ?_
   refine blockA_hit ?_
   exact awp_weak (show Weak C _ ⟨[(5, .ptr 0 0 0), (6, .sl 8 (bks bs)), (7, .val (.int .i64 ((cn : Nat) : Int))), (10, .own 2), (14, .val (.int .i64 0)), (15, .own 4), (16, .val (.int .i64 B2))], _, _⟩ from weak_sl (sub_cons rfl (sub_cons rfl (sub_cons rfl (sub_cons rfl (sub_cons rfl (sub_cons rfl (sub_cons rfl (sub_nil))))))))) (bh34 hP hm hN (fun st h => hQ st h) (xs := xs) (ys := ys) (B2 := B2) (cn := cn) (HL := HL) H hHL hp hv hl hB1l htl hn1 hn4 hmm hbl hdn hz hLAl hnl hlw1 hlw2 hlw3 hsh1 hsh2 htw1 htw2 hle2)
end Go.Proofs.YtheoapoddmmahaaGreat.Abs

