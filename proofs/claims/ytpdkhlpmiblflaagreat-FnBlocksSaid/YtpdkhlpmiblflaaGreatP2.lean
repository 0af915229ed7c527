import Derived.Test.YtpdkhlpmiblflaaGreatP1
set_option linter.unusedVariables false
set_option linter.unusedSimpArgs false
namespace Go.Proofs.YtpdkhlpmiblflaaGreat.Abs
open Go Go.RowKit
noncomputable def sub : List Nat → Code → Code
  | [], c => c
  | 0 :: p, .seq a _ => sub p a
  | 1 :: p, .seq _ b => sub p b
  | 0 :: p, .cond _ a _ => sub p a
  | 1 :: p, .cond _ _ b => sub p b
  | 0 :: p, .block _ c => sub p c
  | 0 :: p, .loop c => sub p c
  | _, c => c
theorem bnorm : (∀ d, gd true true d = d) ∧ (∀ d, gd false false d = d) ∧ (∀ d, gd true false d = .val undef) ∧ (∀ d, gd false true d = .val undef) ∧ (∀ a : Int, (a != a) = false) ∧ (∀ a : Int, (a == a) = true) ∧ (!true) = false ∧ (!false) = true ∧ (∀ b, (b || false) = b) ∧ (∀ b, (false || b) = b) ∧ (∀ b, (b && true) = b) ∧ (∀ b, (true && b) = b) ∧ (0 : Int).toNat = 0 :=
  ⟨fun _ => rfl, fun _ => rfl, fun _ => rfl, fun _ => rfl, fun a => by simp, fun a => by simp, rfl, rfl, fun b => by simp, fun b => by simp, fun b => by simp, fun b => by simp, rfl⟩

noncomputable abbrev s_L_FnBlocks : Spec (List Int × List Int) where
  args := fun x => [.sl 1 (ints .u8 x.1), .sl 1 (ints .u8 x.2)]
  pre := fun x => ((∀ y ∈ x.1, 0 ≤ y ∧ y ≤ 255) ∧ x.1.length ≤ 9223372036854775807) ∧ ((∀ y ∈ x.2, 0 ≤ y ∧ y ≤ 255) ∧ x.2.length ≤ 9223372036854775807)
  res := fun x => .val (.bool true)

set_option maxRecDepth 20000 in
set_option maxHeartbeats 40000000 in
theorem blk25 {C : Ctx} (hP : C.P = Pr) (hm : C.m = 0) (hN : C.N = 2 + (Go.Proofs.Tryz.f3.ntmps - 2)) {Q : Exit → St → Prop} {code more : List Int} {xs us nz : List Bk} {ms : List Blk} (hQ : ∀ st, Fin T0 (Go.Proofs.Tryz.f3.results).toList s_L_FnBlocks 0 (code, more) st → Q .ret st) (hbc : (∀ x ∈ code, 0 ≤ x ∧ x ≤ 255) ∧ code.length ≤ 1048576) (hbm : (∀ x ∈ more, 0 ≤ x ∧ x ≤ 255) ∧ more.length ≤ 1048576) (hv : ∀ b ∈ xs, isBk b) (hval : validBs xs = true) (h6 : xs.length ≤ 6) (huv : ∀ b ∈ us, isBk b) (hul : us.length = xs.length) (hbu1 : (brkR us).1 = 0) (hbu2 : (brkR us).2 = 0) (hvz : validBs nz = true) (hlz : nz.length = xs.length) (hsz : ask (srtP nz) = true) : awp C (sub [1, 1, 1, 1, 1, 1, 1, 1, 1, 1, 1, 1, 1, 1] (Go.Proofs.Tryz.f3.body.getD .skip)) Q ⟨[(22, .sl 8 (bks nz)), (20, .own 3), (5, .sl 8 (bks xs)), (1, .sl 1 (ints .u8 more)), (0, .sl 1 (ints .u8 code))], [(3, ⟨73, 8, false, bks us⟩), (2, ⟨33, 1, false, ints .i8 usualO⟩), (1, ⟨40, 3, false, brs ms⟩), (0, ⟨40, 3, false, brs ms⟩)], 4⟩ := by
 have xn2 := bnorm
 have xn1 := And.intro hsz (And.intro hbu1 hbu2)
 refine awp_seq ?_
 refine r1 T0_ok hP hm hN ?_
 refine g1 ?_
 refine gc1 ?_ (call1 ok_I_IsSorted nz [] (hpre := by (try dsimp only); exact ⟨hvz, by omega⟩))
 iterate 5 refine g1 ?_
 refine awp_seq ?_
 refine r1 T0_ok hP hm hN ?_
 refine g1 ?_
 refine gc1 ?_ (call1 ok_I_BreaksOf us [] (hpre := by (try dsimp only); exact ⟨huv, by omega⟩))
 iterate 5 refine g1 ?_
 refine awp_seq ?_
 refine awp_seq ?_
 refine r1 T0_ok hP hm hN ?_
 iterate 3 refine g1 ?_
 iterate 2 refine gy1 ?_
 iterate 2 refine g1 ?_
 iterate 2 refine gy1 ?_
 iterate 2 refine g1 ?_
 iterate 2 refine gy1 ?_
 refine g1 ?_
 refine awp_cond rfl (fun hc5 => ?_) (fun hc5 => ?_)
 ·
  exact absurd hc5 (by decide)
 ·
  refine awp_skip ?_
  refine awp_seq ?_
  refine awp_seq ?_
  refine r1 T0_ok hP hm hN ?_
  iterate 3 refine g1 ?_
  refine awp_cond rfl (fun hc6 => ?_) (fun hc6 => ?_)
  ·
   refine awp_seq ?_
   refine r1 T0_ok hP hm hN ?_
   refine g1 ?_
   refine awp_ret (hQ _ ?_)
   refine fin_mk [] rfl rfl ?_ trivial (by decide)
   rfl
  ·
   have hpos : 0 < xs.length := by
     have h := hc6
     simp only [beq_eq_false_iff_ne, ne_eq] at h
     omega
   obtain ⟨hp0, hp1⟩ := pickC_b hbm (n := (xs.length : Int)) (by omega)
   obtain ⟨hq0, hq1⟩ := pickC_b hbc (n := (xs.length : Int)) (by omega)
   obtain ⟨fr, hfr⟩ : ∃ fr : Nat, pickC more (xs.length : Int) = (fr : Int) := ⟨_, (Int.toNat_of_nonneg hp0).symm⟩
   obtain ⟨tq, htq⟩ : ∃ tq : Nat, pickC code (xs.length : Int) = (tq : Int) := ⟨_, (Int.toNat_of_nonneg hq0).symm⟩
   rw [hfr] at hp0 hp1
   rw [htq] at hq0 hq1
   have hfl : fr < xs.length := by omega
   have htl : tq < xs.length := by omega
   have hmv := one_way hval hfl htl
   have hmb := one_back hval hfl htl
   have hyp := carried_perm xs fr 1 tq
   obtain ⟨ys, hys⟩ : ∃ q, carried xs fr 1 tq = q := ⟨_, rfl⟩
   rw [hys] at hmv hmb hyp
   have hyl := hyp.length_eq
   have hyv : ∀ b ∈ ys, isBk b := fun b hb => hv b (hyp.mem_iff.1 hb)
   have hm1 : (mblR xs ((fr : Int), 1, (tq : Int))).1 = ys := by rw [hmv]
   have hm2 : (mblR xs ((fr : Int), 1, (tq : Int))).2 = 0 := by rw [hmv]
   have hr1 : (mblR ys ((tq : Int), 1, (fr : Int))).1 = xs := by rw [hmb]
   have hr2 : (mblR ys ((tq : Int), 1, (fr : Int))).2 = 0 := by rw [hmb]
   have hiF : isI16 ((fr : Nat) : Int) := ⟨by omega, by omega⟩
   have hiT : isI16 ((tq : Nat) : Int) := ⟨by omega, by omega⟩
   have hi1 : isI16 1 := ⟨by omega, by omega⟩
   clear hmv hmb hys
   have xn1 := And.intro hfr (And.intro htq (And.intro hm1 (And.intro hm2 (And.intro hr1 (hr2)))))
   refine awp_skip ?_
   refine awp_seq ?_
   refine r1 T0_ok hP hm hN ?_
   iterate 3 refine g1 ?_
   refine gc1 ?_ (call1 ok_S_P6Pick (more, (xs.length : Int)) [] (hpre := by (try dsimp only); exact ⟨hbm, by omega, by omega⟩))
   refine g1 ?_
   refine awp_seq ?_
   refine r1 T0_ok hP hm hN ?_
   iterate 3 refine g1 ?_
   refine gc1 ?_ (call1 ok_S_P6Pick (code, (xs.length : Int)) [] (hpre := by (try dsimp only); exact ⟨hbc, by omega, by omega⟩))
   refine g1 ?_
   refine awp_seq ?_
   refine r1 T0_ok hP hm hN ?_
   iterate 6 refine g1 ?_
   refine gc1 ?_ (call1 ok_I_MoveBook (xs, (fr : Int), (tq : Int)) [] (hpre := by (try dsimp only); exact ⟨hv, by omega, hiF, hiT⟩))
   iterate 5 refine g1 ?_
   refine awp_seq ?_
   refine r1 T0_ok hP hm hN ?_
   iterate 6 refine g1 ?_
   refine gc1 ?_ (call1 ok_I_MoveBlock (xs, (fr : Int), 1, (tq : Int)) [] (hpre := by (try dsimp only); exact ⟨hv, by omega, hiF, hi1, hiT⟩))
   iterate 5 refine g1 ?_
   refine awp_seq ?_
   refine r1 T0_ok hP hm hN ?_
   iterate 6 refine g1 ?_
   refine gc1 ?_ (call1 ok_I_MoveBook (ys, (tq : Int), (fr : Int)) [] (hpre := by (try dsimp only); exact ⟨hyv, by omega, hiT, hiF⟩))
   iterate 5 refine g1 ?_
   refine awp_seq ?_
   refine r1 T0_ok hP hm hN ?_
   iterate 3 refine g1 ?_
   iterate 2 refine gy1 ?_
   iterate 2 refine g1 ?_
   iterate 2 refine gy1 ?_
   refine gyc1 ?_ (call1 ok_S_SameBooks ys [] (hpre := by (try dsimp only); omega))
   iterate 2 refine g1 ?_
   iterate 2 refine gy1 ?_
   iterate 2 refine g1 ?_
   iterate 2 refine gy1 ?_
   refine gyc1 ?_ (call1 ok_S_SameBooks xs [] (hpre := by (try dsimp only); omega))
   iterate 2 refine g1 ?_
   refine awp_ret (hQ _ ?_)
   refine fin_mk [] rfl rfl ?_ trivial (by decide)
   rfl
set_option maxRecDepth 20000 in
set_option maxHeartbeats 40000000 in
theorem ok_L_FnBlocks : FnOk Pr 3 s_L_FnBlocks := by
 refine fn_ok0 2 T0_ok Go.Proofs.Tryz.func3 rfl (enters_of Go.Proofs.Tryz.func3 rfl rfl) (fun _ => rfl) (fun _ => rfl) (fun _ => rfl) ?_
 rintro ⟨code, more⟩ ⟨⟨hb, hl1⟩, ⟨hb2, hl2⟩⟩ C hP hN hm hG hS0
 change awp C _ _ ⟨[(0, .sl 1 (ints .u8 code)), (1, .sl 1 (ints .u8 more))], [], 0⟩
 simp only at hb hl1 hb2 hl2
 refine awp_seq ?_
 refine r1 T0_ok hP hm hN ?_
 refine g1 ?_
 refine awp_seq ?_
 refine awp_seq ?_
 refine r1 T0_ok hP hm hN ?_
 refine g1 ?_
 refine gc1 ?_ (call1 ok_L_f6big _ [] (hpre := by (try dsimp only); omega))
 refine g1 ?_
 refine gg1 ?_
 refine ggc1 ?_ (hs := by intro hb; simp +decide only [hb, gd_tt, gd_ff, beq_self_eq_true, Bool.true_and, beq_true]; exact ⟨rfl, _, call1 ok_L_f6big _ [] (hpre := by (try dsimp only); omega), rfl, rfl, rfl⟩)
 refine g1 ?_
 refine awp_cond rfl (fun hc0 => ?_) (fun hc0 => ?_)
 ·
  refine awp_seq ?_
  refine r1 T0_ok hP hm hN ?_
  refine g1 ?_
  refine awp_ret ?_
  refine fin_mk [] rfl rfl ?_ trivial (by decide)
  rfl
 ·
  have h4 : code.length ≤ 4096 ∧ more.length ≤ 4096 := by
    simp only [Bool.or_eq_false_iff, decide_eq_false_iff_not] at hc0
    omega
  have hbc : (∀ x ∈ code, 0 ≤ x ∧ x ≤ 255) ∧ code.length ≤ 1048576 := ⟨hb, by omega⟩
  have hbm : (∀ x ∈ more, 0 ≤ x ∧ x ≤ 255) ∧ more.length ≤ 1048576 := ⟨hb2, by omega⟩
  have hok := fewC_ok hbc
  obtain ⟨xs, hxs⟩ : ∃ q, fewC code = q := ⟨_, rfl⟩
  rw [hxs] at hok
  obtain ⟨hv, hval, h6⟩ := hok
  obtain ⟨ms, us, D, F, K, H⟩ := lawP hv hval h6
  have hlb1 : (lbR xs).1 = (D : Int) := by rw [H.lb]
  have hlb2 : (lbR xs).2 = 0 := by rw [H.lb]
  have hbf1 : (bfR xs).1 = ms := by rw [H.bf]
  have hbf2 : (bfR xs).2 = 0 := by rw [H.bf]
  have hml := H.ml
  have hd6 := H.d6
  have hlm1 : (leastR xs).1 = F := by rw [H.lm]
  have hlm2 : (leastR xs).2 = 0 := by rw [H.lm]
  have hdf : decide ((D : Int) > F) = false := decide_eq_false (by have := H.df; omega)
  have hbk1 : (brkR xs).1 = K := by rw [H.bk]
  have hbk2 : (brkR xs).2 = 0 := by rw [H.bk]
  have hso := H.so
  have hul := H.ul
  have huv := H.uv
  have hbu1 : (brkR us).1 = 0 := by rw [H.bu]
  have hbu2 : (brkR us).2 = 0 := by rw [H.bu]
  have xn2 := And.intro bnorm (And.intro hxs (And.intro hlb1 (And.intro hlb2 (And.intro hbf1 (And.intro hbf2 (And.intro hml (And.intro hlm1 (And.intro hlm2 (And.intro hdf (And.intro hbk1 (And.intro hbk2 (And.intro hso (And.intro hbu1 (hbu2))))))))))))))
  refine awp_skip ?_
  refine awp_seq ?_
  refine r1 T0_ok hP hm hN ?_
  refine g1 ?_
  refine gc1 ?_ (call_few code hbc rfl rfl rfl)
  refine g1 ?_
  refine awp_seq ?_
  refine r1 T0_ok hP hm hN ?_
  refine g1 ?_
  refine gc1 ?_ (call1 ok_I_LeastBlocks xs [] (hpre := by (try dsimp only); exact ⟨hv, by omega⟩))
  iterate 5 refine g1 ?_
  refine awp_seq ?_
  refine r1 T0_ok hP hm hN ?_
  refine g1 ?_
  refine gc1 ?_ (call1 ok_S_LeastBlocks xs [] (hpre := by (try dsimp only); exact ⟨hv, by omega⟩))
  iterate 5 refine g1 ?_
  refine awp_seq ?_
  refine r1 T0_ok hP hm hN ?_
  refine g1 ?_
  refine gc1 ?_ (call1 ok_I_BlocksFor xs [] (hpre := by (try dsimp only); exact ⟨hv, by omega⟩) (hfo := by exact fm_cons (flat_brs _ _ _ _) fm_nil))
  iterate 5 refine g1 ?_
  refine awp_seq ?_
  refine r1 T0_ok hP hm hN ?_
  refine g1 ?_
  refine gc1 ?_ (call1 ok_S_BlocksFor xs [] (hpre := by (try dsimp only); exact ⟨hv, by omega⟩) (hfo := by exact fm_cons (flat_brs _ _ _ _) fm_nil))
  iterate 5 refine g1 ?_
  refine awp_seq ?_
  refine r1 T0_ok hP hm hN ?_
  refine g1 ?_
  refine gc1 ?_ (call1 ok_S_LeastMoves xs [] (hpre := by (try dsimp only); exact ⟨hv, by omega⟩))
  iterate 5 refine g1 ?_
  refine awp_seq ?_
  refine r1 T0_ok hP hm hN ?_
  refine g1 ?_
  refine gc1 ?_ (call1 ok_I_BreaksOf xs [] (hpre := by (try dsimp only); exact ⟨hv, by omega⟩))
  iterate 5 refine g1 ?_
  refine awp_seq ?_
  refine r1 T0_ok hP hm hN ?_
  refine g1 ?_
  refine gc1 ?_ (call1 ok_S_BreaksOf xs [] (hpre := by (try dsimp only); exact ⟨hv, by omega⟩))
  iterate 5 refine g1 ?_
  refine awp_seq ?_
  refine r1 T0_ok hP hm hN ?_
  iterate 2 refine g1 ?_
  refine gc1 ?_ (call1 ok_S_SortBooks xs [] (hpre := by (try dsimp only); exact ⟨hv, hval, by omega⟩))
  iterate 5 refine g1 ?_
  refine awp_seq ?_
  refine awp_seq ?_
  refine awp_joinW (st1 := ⟨[(158, .val (.bool false)), (20, .own 3), (12, .own 1), (8, .val (.int .i64 ((D : Nat) : Int))), (5, .sl 8 (bks xs)), (1, .sl 1 (ints .u8 more)), (0, .sl 1 (ints .u8 code))], [(3, ⟨73, 8, false, bks us⟩), (2, ⟨33, 1, false, ints .i8 usualO⟩), (1, ⟨40, 3, false, brs ms⟩), (0, ⟨40, 3, false, brs ms⟩)], 4⟩) ?_ ?_
  ·
   refine awp_weak (show Weak C _ ⟨[(6, .val (.int .i64 ((D : Nat) : Int))), (7, .val (.int .i64 0)), (9, .val (.int .i64 0)), (10, .own 0), (11, .val (.int .i64 0)), (13, .val (.int .i64 0)), (14, .val (.int .i64 F)), (15, .val (.int .i64 0)), (16, .val (.int .i64 K)), (17, .val (.int .i64 0)), (18, .val (.int .i64 K)), (19, .val (.int .i64 0)), (21, .val (.int .i64 0)), (20, .own 3), (12, .own 1), (8, .val (.int .i64 ((D : Nat) : Int))), (5, .sl 8 (bks xs)), (1, .sl 1 (ints .u8 more)), (0, .sl 1 (ints .u8 code))], _, _⟩ from weak_sl (sub_cons rfl (sub_cons rfl (sub_cons rfl (sub_cons rfl (sub_cons rfl (sub_cons rfl (sub_cons rfl (sub_cons rfl (sub_cons rfl (sub_cons rfl (sub_cons rfl (sub_cons rfl (sub_cons rfl (sub_cons rfl (sub_cons rfl (sub_cons rfl (sub_cons rfl (sub_cons rfl (sub_cons rfl (sub_nil))))))))))))))))))))) ?_
   by_cases hk : K = 0
   ·
    have e := H.k0 hk
    have xn1 := hk
    rw [← e]
    refine r1 T0_ok hP hm hN ?_
    iterate 4 refine g1 ?_
    iterate 2 refine gy1 ?_
    iterate 2 refine g1 ?_
    iterate 3 refine gy1 ?_
    iterate 2 refine g1 ?_
    iterate 3 refine gy1 ?_
    iterate 2 refine g1 ?_
    iterate 2 refine gy1 ?_
    iterate 2 refine g1 ?_
    iterate 2 refine gy1 ?_
    refine gyc1 ?_ (call1 ok_S_SameBlocks ms [] (hpre := by (try dsimp only); omega))
    refine gy1 ?_
    iterate 2 refine g1 ?_
    iterate 4 refine gy1 ?_
    iterate 2 refine g1 ?_
    iterate 2 refine gy1 ?_
    iterate 2 refine g1 ?_
    iterate 3 refine gy1 ?_
    iterate 2 refine g1 ?_
    iterate 3 refine gy1 ?_
    iterate 2 refine g1 ?_
    iterate 2 refine gy1 ?_
    iterate 2 refine g1 ?_
    iterate 3 refine gy1 ?_
    iterate 2 refine g1 ?_
    iterate 2 refine gy1 ?_
    iterate 2 refine g1 ?_
    iterate 5 refine gy1 ?_
    refine gyc1 ?_ (call1 ok_S_SameBooks us [] (hpre := by (try dsimp only); omega))
    iterate 2 refine gy1 ?_
    refine g1 ?_
    exact ⟨rfl, by first | exact weak_sl (sub_cons rfl (sub_cons rfl (sub_cons rfl (sub_cons rfl (sub_cons rfl (sub_cons rfl (sub_cons rfl (sub_nil))))))))⟩
   ·
    have xn1 : (K == 0) = false := by simpa using hk
    refine r1 T0_ok hP hm hN ?_
    iterate 4 refine g1 ?_
    iterate 2 refine gy1 ?_
    iterate 2 refine g1 ?_
    iterate 3 refine gy1 ?_
    iterate 2 refine g1 ?_
    iterate 3 refine gy1 ?_
    iterate 2 refine g1 ?_
    iterate 2 refine gy1 ?_
    iterate 2 refine g1 ?_
    iterate 2 refine gy1 ?_
    refine gyc1 ?_ (call1 ok_S_SameBlocks ms [] (hpre := by (try dsimp only); omega))
    refine gy1 ?_
    iterate 2 refine g1 ?_
    iterate 4 refine gy1 ?_
    iterate 2 refine g1 ?_
    iterate 2 refine gy1 ?_
    iterate 2 refine g1 ?_
    iterate 3 refine gy1 ?_
    iterate 2 refine g1 ?_
    iterate 3 refine gy1 ?_
    iterate 2 refine g1 ?_
    iterate 2 refine gy1 ?_
    iterate 2 refine g1 ?_
    iterate 3 refine gy1 ?_
    iterate 2 refine g1 ?_
    iterate 2 refine gy1 ?_
    iterate 2 refine g1 ?_
    iterate 3 refine gy1 ?_
    iterate 4 (first | refine gn1 ?_ | refine gu1 ?_)
    refine gy1 ?_
    refine g1 ?_
    exact ⟨rfl, by first | exact weak_sl (sub_cons rfl (sub_cons rfl (sub_cons rfl (sub_cons rfl (sub_cons rfl (sub_cons rfl (sub_cons rfl (sub_nil))))))))⟩
  ·
   refine awp_cond rfl (fun hc1 => ?_) (fun hc1 => ?_)
   ·
    exact absurd hc1 (by decide)
   ·
    refine awp_skip ?_
    refine awp_seq ?_
    refine r1 T0_ok hP hm hN ?_
    iterate 2 refine g1 ?_
    refine awp_seq ?_
    refine awp_seq ?_
    refine r1 T0_ok hP hm hN ?_
    refine g1 ?_
    refine awp_block ?_
    refine awp_loop (fun n st => ∃ i : Nat, i ≤ D ∧ n = D - i ∧ st = ⟨[(23, .val (.int .i64 ((i : Nat) : Int))), (22, .sl 8 (bks (bkW xs ms i))), (20, .own 3), (12, .own 1), (8, .val (.int .i64 ((D : Nat) : Int))), (5, .sl 8 (bks xs)), (1, .sl 1 (ints .u8 more)), (0, .sl 1 (ints .u8 code))], [(3, ⟨73, 8, false, bks us⟩), (2, ⟨33, 1, false, ints .i8 usualO⟩), (1, ⟨40, 3, false, brs ms⟩), (0, ⟨40, 3, false, brs ms⟩)], 4⟩) D ⟨_, weak_sl (sub_cons rfl (sub_cons rfl (sub_cons rfl (sub_cons rfl (sub_cons rfl (sub_cons rfl (sub_cons rfl (sub_cons rfl (sub_nil))))))))), 0, Nat.zero_le _, rfl, rfl⟩ ?_
    rintro n st ⟨i, hii, hn, rfl⟩
    refine awp_seq ?_
    refine awp_seq ?_
    refine r1 T0_ok hP hm hN ?_
    iterate 4 refine g1 ?_
    refine awp_cond rfl (fun hc2 => ?_) (fun hc2 => ?_)
    ·
     have hlti : i < D := by simpa using hc2
     obtain ⟨hwb1, hwb2⟩ := H.wb i hlti
     have hgm := brs_get ms i (by omega)
     have hpi := H.way i (by omega)
     have hpn := H.way (i + 1) (by omega)
     have hfn := H.wf (i + 1) (by omega)
     have hnx : bkW xs ms (i + 1) = carB (bkW xs ms i) (ms.getD i br0) := rfl
     obtain ⟨⟨f, c, t⟩, hb0⟩ : ∃ b, ms.getD i br0 = b := ⟨_, rfl⟩
     obtain ⟨nw, hnw⟩ : ∃ q, bkW xs ms i = q := ⟨_, rfl⟩
     obtain ⟨nx, hnx2⟩ : ∃ q, bkW xs ms (i + 1) = q := ⟨_, rfl⟩
     rw [hb0] at hwb1 hwb2 hgm hnx
     rw [hnw] at hpi hnx
     rw [hnx2] at hpn hfn hnx
     have hvw : ∀ b ∈ nw, isBk b := fun b hb => hv b (hpi.mem_iff.1 hb)
     have hvn : ∀ b ∈ nx, isBk b := fun b hb => hv b (hpn.mem_iff.1 hb)
     have hlw := hpi.length_eq
     have hln := hpn.length_eq
     have hm : mblR nw (f, c, t) = (nx, 0) := by rw [mblR, if_neg (by rw [valid_pm hpi, hval]; decide), if_neg (by rw [hlw, hwb2]; decide), ← hnx]
     have hm1 : (mblR nw (f, c, t)).1 = nx := by rw [hm]
     have hm2 : (mblR nw (f, c, t)).2 = 0 := by rw [hm]
     have hf1 : (lbR nx).1 = (D : Int) - (i : Int) - 1 := by rw [hfn]; simp only; omega
     have hf2 : (lbR nx).2 = 0 := by rw [hfn]
     rw [hnw]
     clear hfn hm hnx
     have xn1 := And.intro hm1 (And.intro hm2 (And.intro hf1 (And.intro hf2 (hln))))
     refine awp_skip ?_
     refine awp_seq ?_
     refine awp_block ?_
     refine awp_seq ?_
     refine r1 T0_ok hP hm hN ?_
     iterate 5 refine g1 ?_
     refine gc1 ?_ (call1 ok_I_MoveBlock (nw, f, c, t) [] (hpre := by (try dsimp only); exact ⟨hvw, by omega, hwb1⟩))
     iterate 5 refine g1 ?_
     refine awp_seq ?_
     refine awp_seq ?_
     refine r1 T0_ok hP hm hN ?_
     iterate 3 refine g1 ?_
     iterate 5 refine gy1 ?_
     refine g1 ?_
     refine awp_cond rfl (fun hc3 => ?_) (fun hc3 => ?_)
     ·
      exact absurd hc3 (by decide)
     ·
      refine awp_skip ?_
      refine awp_seq ?_
      refine r1 T0_ok hP hm hN ?_
      refine g1 ?_
      refine gc1 ?_ (call1 ok_I_LeastBlocks nx [] (hpre := by (try dsimp only); exact ⟨hvn, by omega⟩))
      iterate 5 refine g1 ?_
      refine awp_seq ?_
      refine awp_seq ?_
      refine r1 T0_ok hP hm hN ?_
      iterate 3 refine g1 ?_
      iterate 6 refine gy1 ?_
      refine g1 ?_
      refine awp_cond rfl (fun hc4 => ?_) (fun hc4 => ?_)
      ·
       exact absurd hc4 (by decide)
      ·
       refine awp_skip ?_
       refine r1 T0_ok hP hm hN ?_
       iterate 2 refine g1 ?_
       refine r1 T0_ok hP hm hN ?_
       iterate 3 refine g1 ?_
       refine ⟨D - (i + 1), _, by omega, ?_, i + 1, by omega, rfl, rfl⟩
       rw [hnx2]
       exact Weak.trans (weak_frz 4 hS0 hG rfl (.inl rfl)) (Weak.trans (weak_nx (nx' := 4) (by omega) (by rfl)) (weak_sl (sub_cons rfl (sub_cons rfl (sub_cons rfl (sub_cons rfl (sub_cons rfl (sub_cons rfl (sub_cons rfl (sub_cons rfl (sub_nil)))))))))))
    ·
     have hgei : ¬ i < D := by simpa using hc2
     have hie : D = i := by omega
     subst hie
     have hws := H.ws
     have hpz := H.way D (Nat.le_refl _)
     obtain ⟨nz, hnz⟩ : ∃ q, bkW xs ms D = q := ⟨_, rfl⟩
     rw [hnz] at hws hpz
     have hvz : validBs nz = true := by rw [valid_pm hpz]; exact hval
     have hlz := hpz.length_eq
     have hsz : ask (srtP nz) = true := ask_true hws
     rw [hnz]
     refine awp_exit ?_
     repeat refine thenA_exit ?_
     refine blockA_hit ?_
     exact awp_weak (show Weak C _ ⟨[(22, .sl 8 (bks nz)), (20, .own 3), (5, .sl 8 (bks xs)), (1, .sl 1 (ints .u8 more)), (0, .sl 1 (ints .u8 code))], _, _⟩ from weak_sl (sub_cons rfl (sub_cons rfl (sub_cons rfl (sub_cons rfl (sub_cons rfl (sub_nil))))))) (blk25 hP hm hN (fun st h => h) hbc hbm hv hval h6 huv hul hbu1 hbu2 hvz hlz hsz)
end Go.Proofs.YtpdkhlpmiblflaaGreat.Abs

