import Derived.Test.YtheoapoddmmahaaGreatN3c
set_option linter.unusedVariables false
set_option linter.unusedSimpArgs false
namespace Go.Proofs.YtheoapoddmmahaaGreat.Abs
open Go Go.RowKit
set_option maxRecDepth 20000 in
set_option maxHeartbeats 16000000 in
theorem ok_L_FnBestHeights : FnOk Pr 3 s_L_FnBestHeights := by
 refine fn_ok 2 0 T0_ok Go.Proofs.Tryz.func3 rfl (enters_of Go.Proofs.Tryz.func3 rfl rfl) (fun _ => rfl) (fun _ => rfl) (fun _ => rfl) ?_
 rintro ⟨xs, ys⟩ ⟨⟨hb, hl1⟩, ⟨hb2, hl2⟩⟩ C hP hN hm hG
 change awp C _ _ ⟨[(0, .sl 1 (ints .u8 xs)), (1, .sl 1 (ints .u8 ys))], [], 0⟩
 simp only at hb hl1 hb2 hl2
 refine awp_seq ?_
 refine r1 T0_ok hP hm hN ?_
 refine g1 ?_
 refine awp_seq ?_
 refine awp_seq ?_
 refine r1 T0_ok hP hm hN ?_
 iterate 2 refine g1 ?_
 refine gc1 ?_ (call1 ok_L_a2Long (_, _) [] (hpre := by (try dsimp only); exact ⟨by omega, by omega⟩))
 refine awp_cond rfl (fun hc0 => ?_) (fun hc0 => ?_)
 ·
  refine awp_seq ?_
  refine r1 T0_ok hP hm hN ?_
  refine g1 ?_
  refine awp_ret ?_
  refine fin_mk [] rfl rfl ?_ trivial (by decide)
  rfl
 ·
  have h3 : xs.length ≤ 3000 ∧ ys.length ≤ 3000 := by
    simp only [Bool.or_eq_false_iff, decide_eq_false_iff_not] at hc0
    omega
  have H := bhOk (xs := xs) (ys := ys) ⟨hb, by omega⟩ ⟨hb2, by omega⟩
  have hat := atV_b hb2
  obtain ⟨⟨a, b, c⟩, hPq⟩ : ∃ p, pgP (xs, 0, 0) = p := ⟨_, rfl⟩
  rw [hPq] at H
  obtain ⟨bs, hBq⟩ : ∃ q, bkC ys = q := ⟨_, rfl⟩
  rw [hBq] at H
  obtain ⟨hs, hHq⟩ : ∃ q, htC (a, b, c) xs = q := ⟨_, rfl⟩
  rw [hHq] at H
  obtain ⟨cn, hnq⟩ : ∃ cn : Nat, 1 + atV ys = (cn : Int) := ⟨(1 + atV ys).toNat, by omega⟩
  have hn1 : 1 ≤ cn := by omega
  have hn4 : cn ≤ 4 := by omega
  have hp := H.pg
  have hok : pegsOk a b c = true := H.ok
  have hv : ∀ b ∈ bs, isBk b := fun b h => (H.bk b h).1
  have hl := H.len
  have hhl : hs.length ≤ 6 := (validH_b2 H.vh).2.2
  have hts1 : (htsR a b c bs).1 = htsI a b bs := by rw [H.hts]
  have hts2 : (htsR a b c bs).2 = 0 := by rw [H.hts]
  have htl : (htsI a b bs).length ≤ bs.length := htsI_len _ _ _
  have hbe := H.bst hn1 hn4
  obtain ⟨⟨B1, B2, B3⟩, hB0⟩ : ∃ q, bstR a b c bs (cn : Int) = q := ⟨_, rfl⟩
  rw [hB0] at hbe
  have hb1 : (bstR a b c bs (cn : Int)).1 = B1 := by rw [hB0]
  have hb2' : (bstR a b c bs (cn : Int)).2.1 = B2 := by rw [hB0]
  have hb3 : (bstR a b c bs (cn : Int)).2.2 = B3 := by rw [hB0]
  have hBc : (B3 = 6 ∧ (htsI a b bs).length < cn ∧ B1 = []) ∨ (B3 = 0 ∧ cn ≤ (htsI a b bs).length ∧ B1 = bestL a b bs cn ∧ B2 = bestV a b bs cn) := by
    by_cases h : (htsI a b bs).length < cn
    · rw [if_pos h] at hbe
      cases hbe
      exact .inl ⟨rfl, h, rfl⟩
    · rw [if_neg h] at hbe
      cases hbe
      exact .inr ⟨rfl, by omega, rfl, rfl⟩
  have hBz : (B3 == 0) = decide (((htsI a b bs).length : Int) ≥ (cn : Int)) := by
    rcases hBc with ⟨h, h2, _⟩ | ⟨h, h2, _⟩
    · rw [h, decide_eq_false (by omega)]; rfl
    · rw [h, decide_eq_true (by omega)]; rfl
  have hB1l : B1.length ≤ 4 := by
    rcases hBc with ⟨_, _, h⟩ | ⟨_, hmm, h, _⟩
    · rw [h]; simp
    · rw [h, (H.best hn1 hn4 hmm).1]; exact hn4
  have hw1 : (wasteO a b c hs bs).1 = sumA (wG hs bs) (gF hs bs) bs.length := by rw [H.wst]
  have hw2 : (wasteO a b c hs bs).2 = 0 := by rw [H.wst]
  have hadd := H.add
  obtain ⟨⟨A1, A2, A3⟩, hA0⟩ : ∃ q, addR a b c hs bs = q := ⟨_, rfl⟩
  rw [hA0] at hadd
  have ha1 : (addR a b c hs bs).1 = A1 := by rw [hA0]
  have ha2 : (addR a b c hs bs).2.1 = A2 := by rw [hA0]
  have ha3 : (addR a b c hs bs).2.2 = A3 := by rw [hA0]
  simp only at hadd
  have hws := hw1
  obtain ⟨WS, hWS⟩ : ∃ q, sumA (wG hs bs) (gF hs bs) bs.length = q := ⟨_, rfl⟩
  rw [hWS] at hw1 hadd
  clear hws
  obtain ⟨HL, hHL⟩ : ∃ q, htsI a b bs = q := ⟨_, rfl⟩
  rw [hHL] at hts1 htl hBc hBz hadd
  have xn2 := And.intro bnorm (And.intro hPq (And.intro hBq (And.intro hHq (And.intro hnq (And.intro hts1 (And.intro hts2 (And.intro hb1 (And.intro hb2' (And.intro hb3 (And.intro hw1 (And.intro hw2 (And.intro ha1 (And.intro ha2 (ha3))))))))))))))
  refine awp_skip ?_
  refine awp_seq ?_
  refine r1 T0_ok hP hm hN ?_
  refine g1 ?_
  refine gc1 ?_ (call1 ok_S_A2Pegs _ [] (hpre := by (try dsimp only); exact ⟨hb, by omega⟩))
  iterate 2 refine g1 ?_
  refine awp_seq ?_
  refine r1 T0_ok hP hm hN ?_
  refine g1 ?_
  refine gc1 ?_ (call_books ys ⟨hb2, by omega⟩ rfl rfl rfl)
  refine g1 ?_
  refine awp_seq ?_
  refine r1 T0_ok hP hm hN ?_
  refine g1 ?_
  refine gc1 ?_ (call1 ok_L_a2At _ [] (hpre := by (try dsimp only); exact ⟨hb2, by omega⟩))
  iterate 2 refine g1 ?_
  refine awp_seq ?_
  refine r1 T0_ok hP hm hN ?_
  iterate 2 refine g1 ?_
  refine gc1 ?_ (call1 ok_I_HeightsOf ((a, b, c), bs) [] (hpre := by (try dsimp only); exact ⟨hp, hv, by omega⟩))
  iterate 5 refine g1 ?_
  refine awp_seq ?_
  refine r1 T0_ok hP hm hN ?_
  iterate 2 refine g1 ?_
  refine gc1 ?_ (call1 ok_S_HeightsOf ((a, b, c), bs) [] (hpre := by (try dsimp only); exact ⟨hp, hv, by omega⟩))
  iterate 5 refine g1 ?_
  refine awp_seq ?_
  refine r1 T0_ok hP hm hN ?_
  iterate 3 refine g1 ?_
  refine gc1 ?_ (call1 ok_I_BestHeights ((a, b, c), bs, (cn : Nat)) [] (hpre := by (try dsimp only); exact ⟨hp, ⟨hv, by omega⟩, by omega, by omega⟩))
  iterate 7 refine g1 ?_
  refine awp_seq ?_
  refine r1 T0_ok hP hm hN ?_
  iterate 3 refine g1 ?_
  refine gc1 ?_ (call1 ok_S_BestHeights ((a, b, c), bs, (cn : Nat)) [] (hpre := by (try dsimp only); exact ⟨hp, ⟨hv, by omega⟩, by omega, by omega⟩))
  iterate 7 refine g1 ?_
  refine awp_seq ?_
  refine awp_seq ?_
  refine awp_weak (show Weak C _ ⟨[(0, .sl 1 (ints .u8 xs)), (5, .ptr 0 0 0), (6, .sl 8 (bks bs)), (7, .val (.int .i64 ((cn : Nat) : Int))), (8, .own 1), (9, .val (.int .i64 0)), (10, .own 2), (11, .val (.int .i64 0)), (12, .own 3), (13, .val (.int .i64 B2)), (14, .val (.int .i64 B3)), (15, .own 4), (16, .val (.int .i64 B2)), (17, .val (.int .i64 B3))], _, _⟩ from weak_sl (sub_cons rfl (sub_cons rfl (sub_cons rfl (sub_cons rfl (sub_cons rfl (sub_cons rfl (sub_cons rfl (sub_cons rfl (sub_cons rfl (sub_cons rfl (sub_cons rfl (sub_cons rfl (sub_cons rfl (sub_cons rfl (sub_nil)))))))))))))))) ?_
  refine r1 T0_ok hP hm hN ?_
  iterate 4 refine g1 ?_
  iterate 2 refine gy1 ?_
  iterate 2 refine g1 ?_
  iterate 2 refine gy1 ?_
  refine gyc1 ?_ (call1 ok_S_A2Same HL [] (hpre := by (try dsimp only); omega))
  refine gy1 ?_
  iterate 2 refine g1 ?_
  iterate 3 refine gy1 ?_
  iterate 2 refine g1 ?_
  iterate 2 refine gy1 ?_
  refine gyc1 ?_ (call1 ok_S_A2Same B1 [] (hpre := by (try dsimp only); omega))
  refine gy1 ?_
  iterate 2 refine g1 ?_
  iterate 3 refine gy1 ?_
  iterate 2 refine g1 ?_
  iterate 7 refine gy1 ?_
  refine g1 ?_
  refine awp_cond rfl (fun hc1 => ?_) (fun hc1 => ?_)
  ·
   exfalso
   rw [hBz] at hc1
   simp at hc1
  ·
   refine awp_skip ?_
   refine awp_seq ?_
   refine awp_seq ?_
   refine r1 T0_ok hP hm hN ?_
   refine g1 ?_
   refine awp_block ?_
   refine awp_loop (fun n st => ∃ i : Nat, i ≤ bs.length ∧ n = bs.length - i ∧ st = ⟨[(18, .val (.int .i64 ((i : Nat) : Int))), (0, .sl 1 (ints .u8 xs)), (5, .ptr 0 0 0), (6, .sl 8 (bks bs)), (7, .val (.int .i64 ((cn : Nat) : Int))), (10, .own 2), (14, .val (.int .i64 B3)), (15, .own 4), (16, .val (.int .i64 B2))], [(4, ⟨2, 1, false, i64s (B1)⟩), (3, ⟨2, 1, false, i64s (B1)⟩), (2, ⟨2, 1, false, i64s (HL)⟩), (1, ⟨2, 1, false, i64s (HL)⟩), (0, ⟨26, 3, true, [[.val (.int .i16 a), .val (.int .i16 b), .val (.int .i16 c)]]⟩)], 5⟩) (bs.length) ⟨_, weak_sl (sub_cons rfl (sub_cons rfl (sub_cons rfl (sub_cons rfl (sub_cons rfl (sub_cons rfl (sub_cons rfl (sub_cons rfl (sub_cons rfl (sub_nil)))))))))), 0, by omega, rfl, rfl⟩ ?_
   rintro n st ⟨i, hii, hni, rfl⟩
   refine awp_seq ?_
   refine awp_seq ?_
   refine r1 T0_ok hP hm hN ?_
   iterate 4 refine g1 ?_
   refine awp_cond rfl (fun hc2 => ?_) (fun hc2 => ?_)
   ·
    have hlti : i < bs.length := by simpa using hc2
    have hbh : 50 ≤ (bs.getD i bk0).high ∧ (bs.getD i bk0).high ≤ 400 := (H.o2 _ (getD_mem' (d := bk0) hlti)).2
    obtain ⟨hpf, hhas⟩ := H.peg hlti
    rw [hHL] at hhas
    have hpf1 : (pegForR a b c (bs.getD i bk0).high).1 = pegH a b (bs.getD i bk0).high := by rw [hpf]
    have hpf2 : (pegForR a b c (bs.getD i bk0).high).2 = 0 := by rw [hpf]
    have xn1 := And.intro hpf1 (And.intro hpf2 hhas)
    refine awp_skip ?_
    refine awp_seq ?_
    refine awp_block ?_
    refine awp_seq ?_
    refine awp_draw T0_ok hP hm hN Pr_mix [0] [7] _ rfl (by rfl) ?_
    iterate 7 refine d1 T0_ok ?_
    refine dp1 ?_ (call1 ok_I_PegFor ((a, b, c), _) [] (hpre := by (try dsimp only); exact hp))
    iterate 5 refine d1 T0_ok ?_
    refine dreg_nil ?_
    refine awp_seq ?_
    refine r1 T0_ok hP hm hN ?_
    iterate 3 refine g1 ?_
    iterate 2 refine gy1 ?_
    refine gyc1 ?_ (call1 ok_S_A2Has (_, _) [] (hpre := by (try dsimp only); omega))
    refine gy1 ?_
    refine g1 ?_
    refine awp_cond rfl (fun hc3 => ?_) (fun hc3 => ?_)
    ·
     exfalso
     exact absurd hc3 (by decide)
    ·
     refine awp_skip ?_
     refine r1 T0_ok hP hm hN ?_
     iterate 3 refine g1 ?_
     refine ⟨bs.length - (i + 1), _, by omega, weak_sl (sub_cons rfl (sub_cons rfl (sub_cons rfl (sub_cons rfl (sub_cons rfl (sub_cons rfl (sub_cons rfl (sub_cons rfl (sub_cons rfl (sub_nil)))))))))), i + 1, by omega, rfl, rfl⟩
   ·
    have hgei : ¬ i < bs.length := by simpa using hc2
    have heqi : i = bs.length := by omega
    refine awp_exit ?_
    repeat refine thenA_exit ?_
    refine blockA_hit ?_
    refine awp_seq ?_
    refine r1 T0_ok hP hm hN ?_
    iterate 2 refine g1 ?_
    refine gc1 ?_ (call1 ok_S_A2Heights (xs, (a, b, c)) [] (hpre := by (try dsimp only); exact ⟨⟨hb, by omega⟩, hok, hp⟩))
    refine g1 ?_
    refine awp_seq ?_
    refine r1 T0_ok hP hm hN ?_
    iterate 3 refine g1 ?_
    refine gc1 ?_ (call1 ok_I_WasteOf ((a, b, c), hs, bs) [] (hpre := by (try dsimp only); exact ⟨hp, by omega, hv, by omega⟩))
    iterate 5 refine g1 ?_
    refine awp_seq ?_
    refine r1 T0_ok hP hm hN ?_
    iterate 3 refine g1 ?_
    refine gc1 ?_ (call1 ok_I_AddHeight ((a, b, c), hs, bs) [] (hpre := by (try dsimp only); exact ⟨hp, by omega, hv, by omega⟩))
    iterate 7 refine g1 ?_
    refine awp_seq ?_
    refine r1 T0_ok hP hm hN ?_
    iterate 3 refine g1 ?_
    refine gc1 ?_ (call1 ok_S_AddHeight ((a, b, c), hs, bs) [] (hpre := by (try dsimp only); exact ⟨hp, by omega, hv, by omega⟩))
    iterate 7 refine g1 ?_
    refine awp_seq ?_
    refine awp_seq ?_
    refine awp_joinW (st1 := ⟨[(221, .val (.bool false)), (5, .ptr 0 0 0), (6, .sl 8 (bks bs)), (7, .val (.int .i64 ((cn : Nat) : Int))), (10, .own 2), (14, .val (.int .i64 B3)), (15, .own 4), (16, .val (.int .i64 B2))], [(5, ⟨2, 1, false, i64s (hs)⟩), (4, ⟨2, 1, false, i64s (B1)⟩), (3, ⟨2, 1, false, i64s (B1)⟩), (2, ⟨2, 1, false, i64s (HL)⟩), (1, ⟨2, 1, false, i64s (HL)⟩), (0, ⟨26, 3, true, [[.val (.int .i16 a), .val (.int .i16 b), .val (.int .i16 c)]]⟩)], 6⟩) ?_ ?_
    ·
     refine awp_weak (show Weak C _ ⟨[(5, .ptr 0 0 0), (6, .sl 8 (bks bs)), (7, .val (.int .i64 ((cn : Nat) : Int))), (10, .own 2), (14, .val (.int .i64 B3)), (15, .own 4), (16, .val (.int .i64 B2)), (21, .own 5), (22, .val (.int .i64 WS)), (23, .val (.int .i64 0)), (24, .val (.int .i64 A1)), (25, .val (.int .i64 A2)), (26, .val (.int .i64 A3)), (27, .val (.int .i64 A1)), (28, .val (.int .i64 A2)), (29, .val (.int .i64 A3))], _, _⟩ from weak_sl (sub_cons rfl (sub_cons rfl (sub_cons rfl (sub_cons rfl (sub_cons rfl (sub_cons rfl (sub_cons rfl (sub_cons rfl (sub_cons rfl (sub_cons rfl (sub_cons rfl (sub_cons rfl (sub_cons rfl (sub_cons rfl (sub_cons rfl (sub_cons rfl (sub_nil)))))))))))))))))) ?_
     rcases hadd with ⟨r1, r2, r3, r4⟩ | r1 | r1
     ·
      subst r1
      have r5 : decide (A2 > WS) = false := decide_eq_false (by omega)
      have xn1 := And.intro r3 (And.intro r4 r5)
      refine r1 T0_ok hP hm hN ?_
      iterate 3 refine g1 ?_
      iterate 3 refine gy1 ?_
      iterate 2 refine g1 ?_
      iterate 3 refine gy1 ?_
      iterate 2 refine g1 ?_
      iterate 3 refine gy1 ?_
      iterate 2 refine g1 ?_
      iterate 9 refine gy1 ?_
      refine gyc1 ?_ (call1 ok_S_A2Has (_, _) [] (hpre := by (try dsimp only); omega))
      iterate 4 refine gy1 ?_
      refine gyc1 ?_ (call1 ok_S_A2Has (_, _) [] (hpre := by (try dsimp only); omega))
      iterate 3 refine gy1 ?_
      iterate 2 refine g1 ?_
      iterate 3 refine gy1 ?_
      iterate 2 (first | refine gn1 ?_ | refine gu1 ?_)
      iterate 2 refine gy1 ?_
      iterate 2 (first | refine gn1 ?_ | refine gu1 ?_)
      refine gy1 ?_
      refine g1 ?_
      exact ⟨rfl, weak_sl (sub_cons rfl (sub_cons rfl (sub_cons rfl (sub_cons rfl (sub_cons rfl (sub_cons rfl (sub_cons rfl (sub_cons rfl (sub_nil)))))))))⟩
     ·
      subst r1
      refine r1 T0_ok hP hm hN ?_
      iterate 3 refine g1 ?_
      iterate 3 refine gy1 ?_
      iterate 2 refine g1 ?_
      iterate 3 refine gy1 ?_
      iterate 2 refine g1 ?_
      iterate 3 refine gy1 ?_
      iterate 2 refine g1 ?_
      iterate 3 refine gy1 ?_
      iterate 14 (first | refine gn1 ?_ | refine gu1 ?_)
      refine gy1 ?_
      iterate 2 refine g1 ?_
      iterate 7 refine gy1 ?_
      iterate 2 (first | refine gn1 ?_ | refine gu1 ?_)
      refine gy1 ?_
      refine g1 ?_
      exact ⟨rfl, weak_sl (sub_cons rfl (sub_cons rfl (sub_cons rfl (sub_cons rfl (sub_cons rfl (sub_cons rfl (sub_cons rfl (sub_cons rfl (sub_nil)))))))))⟩
     ·
      subst r1
      refine r1 T0_ok hP hm hN ?_
      iterate 3 refine g1 ?_
      iterate 3 refine gy1 ?_
      iterate 2 refine g1 ?_
      iterate 3 refine gy1 ?_
      iterate 2 refine g1 ?_
      iterate 3 refine gy1 ?_
      iterate 2 refine g1 ?_
      iterate 3 refine gy1 ?_
      iterate 14 (first | refine gn1 ?_ | refine gu1 ?_)
      refine gy1 ?_
      iterate 2 refine g1 ?_
      iterate 10 refine gy1 ?_
      refine g1 ?_
      exact ⟨rfl, weak_sl (sub_cons rfl (sub_cons rfl (sub_cons rfl (sub_cons rfl (sub_cons rfl (sub_cons rfl (sub_cons rfl (sub_cons rfl (sub_nil)))))))))⟩
    ·
     refine awp_cond rfl (fun hc4 => ?_) (fun hc4 => ?_)
     ·
      exfalso
      exact absurd hc4 (by decide)
     ·
      refine awp_skip ?_
      refine awp_seq ?_
      refine awp_seq ?_
      refine r1 T0_ok hP hm hN ?_
      iterate 2 refine g1 ?_
      refine awp_cond rfl (fun hc5 => ?_) (fun hc5 => ?_)
      ·
       have hc6 : B3 = 6 := by
         rcases hBc with ⟨h, _⟩ | ⟨h, _⟩
         · exact h
         · rw [h] at hc5; simp at hc5
       refine awp_seq ?_
       refine r1 T0_ok hP hm hN ?_
       iterate 3 refine g1 ?_
       refine awp_ret ?_
       refine fin_mk [] rfl rfl ?_ trivial (by decide)
       show D.val (.bool true) = D.val (.bool (B3 == 6))
       rw [hc6]
       rfl
      ·
       have hcc : B3 = 0 := by simpa using hc5
       rcases hBc with ⟨h, _⟩ | ⟨_, hmm, h1, h2⟩
       · omega
       subst hcc
       rw [← hHL] at hmm
       obtain ⟨hbl, hbm, hbw, HB⟩ := H.best hn1 hn4 hmm
       have hone : cn = 1 → (bestL a b bs cn).getD 0 0 = (htsI a b bs).getD ((htsI a b bs).length - 1) 0 := fun he => by rw [he]; exact H.one (by omega)
       have hdn : 2 ≤ cn → bestV a b bs cn ≤ bestV a b bs (cn - 1) := fun h => H.down h hmm
       have hlow := H.low (by omega)
       have hle0 : (lowR a b c bs 100).2.1 ≤ tallW c (bestL a b bs cn) ((grpL (bestL a b bs cn) bs).map (nedI bs 100)) cn := by
         have e := lowF_min (a := a) (b := b) (c := c) (bs := bs) (wide := 100) (min 6 (htsI a b bs).length) cn hn1 (by omega)
         rw [lowT, hbl] at e
         rw [hlow]
         exact e
       have hshe := HB.shel
       have htal := HB.tall
       rw [hbl] at htal
       rw [← h1] at hbl hbm hbw hone hle0 hshe htal
       rw [← h2] at hbw hdn
       rw [hHL] at hbm hone hmm
       clear h1 h2 HB
       obtain ⟨⟨LA, LB, LC⟩, hLW⟩ : ∃ q, lowR a b c bs 100 = q := ⟨_, rfl⟩
       have hLAl : LA.length ≤ 6 := by
         have := lowR_len a b c bs 100
         rw [hLW] at this
         exact this
       rw [hLW] at hlow
       have hLC : LC = 0 := (Prod.mk.inj (Prod.mk.inj hlow).2).2
       clear hlow
       subst hLC
       have hlw1 : (lowR a b c bs 100).1 = LA := by rw [hLW]
       have hlw2 : (lowR a b c bs 100).2.1 = LB := by rw [hLW]
       have hlw3 : (lowR a b c bs 100).2.2 = 0 := by rw [hLW]
       rw [hlw2] at hle0
       obtain ⟨NE, hNE⟩ : ∃ q, (grpL B1 bs).map (nedI bs 100) = q := ⟨_, rfl⟩
       have hnl : NE.length = B1.length := by rw [← hNE, List.length_map]; exact grpF_len _ _ _
       rw [hNE] at hle0 hshe htal
       obtain ⟨TV, hTV⟩ : ∃ q, tallW c B1 NE cn = q := ⟨_, rfl⟩
       rw [hTV] at hle0 htal
       have hsh1 : (shelO nedI a b c B1 bs 100).1 = NE := by rw [hshe]
       have hsh2 : (shelO nedI a b c B1 bs 100).2 = 0 := by rw [hshe]
       have htw1 : (tallOfR a b c B1 NE (validH a b c B1)).1 = TV := by rw [htal]
       have htw2 : (tallOfR a b c B1 NE (validH a b c B1)).2 = 0 := by rw [htal]
       have hbw1 : (wasteO a b c B1 bs).1 = B2 := by rw [hbw]
       have hbw2 : (wasteO a b c B1 bs).2 = 0 := by rw [hbw]
       have hle2 : decide (TV ≥ LB) = true := decide_eq_true hle0
       have hz : (((cn : Int) == 1) && (B1.getD 0 0 != HL.getD ((HL.length : Int) - 1).toNat 0)) = false := by
         by_cases he1 : cn = 1
         · rw [show ((HL.length : Int) - 1).toNat = HL.length - 1 by omega, hone he1]
           simp
         · rw [show ((cn : Int) == 1) = false by simp; omega]
           rfl
       clear hadd hbe hBz hone hbw hshe htal hTV hNE hLW
       have xn1 := And.intro hbw1 (And.intro hbw2 (And.intro hlw1 (And.intro hlw2 (And.intro hlw3 (And.intro hsh1 (And.intro hsh2 (And.intro htw1 (And.intro htw2 (And.intro hle2 (hbl))))))))))
       refine awp_skip ?_
       exact awp_weak (show Weak C _ ⟨[(5, .ptr 0 0 0), (6, .sl 8 (bks bs)), (7, .val (.int .i64 ((cn : Nat) : Int))), (10, .own 2), (14, .val (.int .i64 0)), (15, .own 4), (16, .val (.int .i64 B2))], _, _⟩ from weak_sl (sub_cons rfl (sub_cons rfl (sub_cons rfl (sub_cons rfl (sub_cons rfl (sub_cons rfl (sub_cons rfl (sub_nil))))))))) (bh26 hP hm hN (fun st h => h) (xs := xs) (ys := ys) (B2 := B2) (cn := cn) (HL := HL) H hHL hp hv hl hB1l htl hn1 hn4 hmm hbl hbm hbw1 hbw2 hdn hz hLAl hnl hlw1 hlw2 hlw3 hsh1 hsh2 htw1 htw2 hle2)
end Go.Proofs.YtheoapoddmmahaaGreat.Abs

