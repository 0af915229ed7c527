import Derived.Test.YtheoapoddmmahaaGreatN1
set_option linter.unusedVariables false
set_option linter.unusedSimpArgs false
namespace Go.Proofs.YtheoapoddmmahaaGreat.Abs
open Go Go.RowKit
def tallOfR (a b c : Int) (xs ys : List Int) (ok : Bool) : Int × Int := if !ok then (0, 1) else if !countsOk xs ys 60 then (0, 2) else (tallW c xs ys xs.length, 0)
theorem countsOk_len {xs ys : List Int} {most : Int} (h : (!countsOk xs ys most) = false) : ys.length = xs.length := by
  simp only [Bool.not_eq_false', countsOk, Bool.and_eq_true, decide_eq_true_eq] at h; omega


noncomputable abbrev s_I_areShelves_1 : Spec (Int × Int) where
  args := fun x => [i64D x.1, .rptr 1 [[.val (.int .i64 x.2)]] 0 0]
  res := fun x => .val (.bool (inI x.1 0 x.2))

set_option maxRecDepth 20000 in
set_option maxHeartbeats 1000000 in
theorem ok_I_areShelves_1 : FnOk Pr 93 s_I_areShelves_1 := by
 refine fn_ok 2 0 T0_ok Go.Proofs.Tryz.func93 rfl (enters_of Go.Proofs.Tryz.func93 rfl rfl) (fun _ => rfl) (fun _ => rfl) (fun _ => rfl) ?_
 rintro ⟨n, most⟩ - C hP hN hm hG
 change awp C _ _ ⟨[(0, i64D n), (1, .rptr 1 [[.val (.int .i64 most)]] 0 0)], [], 0⟩
 refine awp_seq ?_
 refine r1 T0_ok hP hm hN ?_
 refine g1 ?_
 refine awp_seq ?_
 refine r1 T0_ok hP hm hN ?_
 iterate 2 refine g1 ?_
 refine gc1 ?_ (call1 ok_I_within_int64 (_, _, _) [])
 refine g1 ?_
 refine awp_ret ?_
 refine fin_mk [] rfl rfl ?_ trivial (by decide)
 rfl

theorem says_shelves (dom : Int → Prop) (most : Int) : Says i64D dom (fun n => inI n 0 most) (.clo (.func 93) [.rptr 1 [[.val (.int .i64 most)]] 0 0]) :=
  ⟨93, [], [.rptr 1 [[.val (.int .i64 most)]] 0 0], (s_I_areShelves_1).comap (fun n => (n, most)), rfl, rfl, rfl, ok_I_areShelves_1.comap _, fun _ => rfl, fun _ _ => trivial, fun _ => rfl, fun _ => rfl, fun _ => rfl, fun _ => rfl⟩

noncomputable abbrev s_I_areShelves : Spec (List Int × List Int × Int) where
  args := fun x => [.sl 1 (i64s x.1), .sl 1 (i64s x.2.1), .val (.int .i64 x.2.2)]
  pre := fun x => x.1.length ≤ 9223372036854775807 ∧ x.2.1.length ≤ 9223372036854775807
  res := fun x => .val (.bool (countsOk x.1 x.2.1 x.2.2))

set_option maxRecDepth 20000 in
set_option maxHeartbeats 1000000 in
theorem ok_I_areShelves : FnOk Pr 61 s_I_areShelves := by
 refine fn_ok 3 0 T0_ok Go.Proofs.Tryz.func61 rfl (enters_of Go.Proofs.Tryz.func61 rfl rfl) (fun _ => rfl) (fun _ => rfl) (fun _ => rfl) ?_
 rintro ⟨xs, ys, most⟩ ⟨hp1, hp2⟩ C hP hN hm hG
 change awp C _ _ ⟨[(0, .sl 1 (i64s xs)), (1, .sl 1 (i64s ys)), (2, .val (.int .i64 most))], [], 0⟩
 simp only at hp1 hp2
 refine awp_seq ?_
 refine r1 T0_ok hP hm hN ?_
 iterate 2 refine g1 ?_
 refine awp_seq ?_
 refine r1 T0_ok hP hm hN ?_
 iterate 6 refine g1 ?_
 iterate 2 refine gg1 ?_
 refine ggc1 ?_ (hs := by intro hb; simp +decide only [hb, gd_tt, gd_ff, beq_self_eq_true, Bool.true_and, beq_true]; exact ⟨rfl, _, call1 ok_I_areAll_int64 (_, _, fun n => inI n 0 most) [] (hpre := by (try dsimp only); exact ⟨hp2, rfl, says_shelves _ most⟩), rfl, rfl, rfl⟩)
 iterate 2 refine g1 ?_
 refine awp_ret ?_
 refine fin_mk [] rfl rfl ?_ trivial (by decide)
 show D.val (.bool (countsOk xs ys most)) = _
 rw [countsOk, Bool.and_comm]
 rfl

noncomputable abbrev s_I_TallOf : Spec ((Int × Int × Int) × List Int × List Int) where
  args := fun x => [pegs x.1, .sl 1 (i64s x.2.1), .sl 1 (i64s x.2.2)]
  pre := fun x => isPegs x.1 ∧ x.2.1.length ≤ 9223372036854775807 ∧ x.2.2.length ≤ 9223372036854775807
  res := fun x => .tup [.val (.int .i64 (tallOfR x.1.1 x.1.2.1 x.1.2.2 x.2.1 x.2.2 (validH x.1.1 x.1.2.1 x.1.2.2 x.2.1)).1), .val (.int .i64 (tallOfR x.1.1 x.1.2.1 x.1.2.2 x.2.1 x.2.2 (validH x.1.1 x.1.2.1 x.1.2.2 x.2.1)).2)]

set_option maxRecDepth 20000 in
set_option maxHeartbeats 1000000 in
theorem ok_I_TallOf : FnOk Pr 22 s_I_TallOf := by
 refine fn_ok 3 0 T0_ok Go.Proofs.Tryz.func22 rfl (enters_of Go.Proofs.Tryz.func22 rfl rfl) (fun _ => rfl) (fun _ => rfl) (fun _ => rfl) ?_
 rintro ⟨⟨a, b, c⟩, xs, ys⟩ ⟨hp, hl, hly⟩ C hP hN hm hG
 change awp C _ _ ⟨[(0, .val (.agg #[.int .i16 a, .int .i16 b, .int .i16 c])), (1, .sl 1 (i64s xs)), (2, .sl 1 (i64s ys))], [], 0⟩
 simp only at hl hly
 refine awp_seq ?_
 refine r1 T0_ok hP hm hN ?_
 iterate 3 refine g1 ?_
 refine awp_seq ?_
 refine awp_block ?_
 refine awp_seq ?_
 refine r1 T0_ok hP hm hN ?_
 iterate 2 refine g1 ?_
 refine gc1 ?_ (call1 ok_I_ValidHeights ((_, _, _), _) [] (hpre := by (try dsimp only); exact ⟨hp, hl⟩))
 iterate 2 refine g1 ?_
 refine awp_cond rfl (fun hc0 => ?_) (fun hc0 => ?_)
 ·
  refine awp_seq ?_
  refine r1 T0_ok hP hm hN ?_
  iterate 2 refine g1 ?_
  refine awp_ret ?_
  refine fin_mk [] rfl rfl ?_ trivial (by decide)
  show D.tup [_, _] = _
  simp only [tallOfR, *, if_true, Bool.false_eq_true, if_false]
  rfl
 ·
  refine awp_seq ?_
  refine r1 T0_ok hP hm hN ?_
  iterate 2 refine g1 ?_
  refine gc1 ?_ (call1 ok_I_areShelves (_, _, _) [] (hpre := by (try dsimp only); exact ⟨hl, hly⟩))
  iterate 2 refine g1 ?_
  refine awp_cond rfl (fun hc1 => ?_) (fun hc1 => ?_)
  ·
   refine awp_seq ?_
   refine r1 T0_ok hP hm hN ?_
   iterate 2 refine g1 ?_
   refine awp_ret ?_
   refine fin_mk [] rfl rfl ?_ trivial (by decide)
   show D.tup [_, _] = _
   simp only [tallOfR, *, if_true, Bool.false_eq_true, if_false]
   rfl
  ·
   refine awp_skip ?_
   refine awp_seq ?_
   refine r1 T0_ok hP hm hN ?_
   iterate 3 refine g1 ?_
   refine gc1 ?_ (call1 ok_I_Pegs_tall ((_, _, _), _, _) [] (hpre := by (try dsimp only); exact ⟨hp, hl, countsOk_len hc1⟩))
   iterate 2 refine g1 ?_
   refine awp_ret ?_
   refine fin_mk [] rfl rfl ?_ trivial (by decide)
   show D.tup [_, _] = _
   simp only [tallOfR, *, if_true, Bool.false_eq_true, if_false]
   rfl



noncomputable abbrev s_I_WasteOf : Spec ((Int × Int × Int) × List Int × List Bk) where
  args := fun x => [pegs x.1, .sl 1 (i64s x.2.1), .sl 8 (bks x.2.2)]
  pre := fun x => isPegs x.1 ∧ x.2.1.length ≤ 1048576 ∧ (∀ b ∈ x.2.2, isBk b) ∧ x.2.2.length ≤ 1048576
  res := fun x => .tup [.val (.int .i64 (wasteO x.1.1 x.1.2.1 x.1.2.2 x.2.1 x.2.2).1), .val (.int .i64 (wasteO x.1.1 x.1.2.1 x.1.2.2 x.2.1 x.2.2).2)]

set_option maxRecDepth 20000 in
set_option maxHeartbeats 4000000 in
theorem ok_I_WasteOf : FnOk Pr 16 s_I_WasteOf := by
 refine fn_ok 3 0 T0_ok Go.Proofs.Tryz.func16 rfl (enters_of Go.Proofs.Tryz.func16 rfl rfl) (fun _ => rfl) (fun _ => rfl) (fun _ => rfl) ?_
 rintro ⟨⟨a, b, c⟩, hs, bs⟩ ⟨hp, hhl, hv, hl⟩ C hP hN hm hG
 change awp C _ _ ⟨[(0, .val (.agg #[.int .i16 a, .int .i16 b, .int .i16 c])), (1, .sl 1 (i64s hs)), (2, .sl 8 (bks bs))], [], 0⟩
 simp only at hhl hv hl
 refine awp_seq ?_
 refine r1 T0_ok hP hm hN ?_
 iterate 3 refine g1 ?_
 refine awp_seq ?_
 refine awp_seq ?_
 refine r1 T0_ok hP hm hN ?_
 iterate 2 refine g1 ?_
 refine gc1 ?_ (call1 ok_I_ValidHeights ((_, _, _), _) [] (hpre := by (try dsimp only); exact ⟨hp, by omega⟩))
 iterate 2 refine g1 ?_
 refine gg1 ?_
 refine ggc1 ?_ (hs := by intro hb; simp +decide only [hb, gd_tt, gd_ff, beq_self_eq_true, Bool.true_and, beq_true]; exact ⟨rfl, _, call1 ok_I_ValidBooks _ [] (hpre := by (try dsimp only); omega), rfl, rfl, rfl⟩)
 refine gg1 ?_
 refine g1 ?_
 refine awp_cond rfl (fun hc0 => ?_) (fun hc0 => ?_)
 ·
  have hr : wasteO a b c hs bs = (0, 1) := by rw [wasteO, codeG_1 hc0]; rfl
  refine awp_seq ?_
  refine r1 T0_ok hP hm hN ?_
  iterate 2 refine g1 ?_
  refine awp_ret ?_
  refine fin_mk [] rfl rfl ?_ trivial (by decide)
  show D.tup [.val (.int .i64 (wasteO a b c hs bs).1), .val (.int .i64 (wasteO a b c hs bs).2)] = _
  rw [hr]
  rfl
 ·
  have hpg := preG_of hv hc0
  refine awp_skip ?_
  refine awp_seq ?_
  refine r1 T0_ok hP hm hN ?_
  iterate 2 refine g1 ?_
  refine gc1 ?_ (call1 ok_I_waste (_, _) [] (hpre := by (try dsimp only); exact hpg))
  iterate 5 refine g1 ?_
  refine awp_seq ?_
  refine awp_seq ?_
  refine r1 T0_ok hP hm hN ?_
  iterate 2 refine g1 ?_
  refine awp_cond rfl (fun hc1 => ?_) (fun hc1 => ?_)
  ·
   rw [show (wasteI hs bs).2 = ask (allG hs bs) from grpR_snd hs bs] at hc1
   have hr : wasteO a b c hs bs = (0, 6) := by rw [wasteO, codeG_6 hc0 (by simpa using hc1)]; rfl
   refine awp_seq ?_
   refine r1 T0_ok hP hm hN ?_
   iterate 2 refine g1 ?_
   refine awp_ret ?_
   refine fin_mk [] rfl rfl ?_ trivial (by decide)
   show D.tup [.val (.int .i64 (wasteO a b c hs bs).1), .val (.int .i64 (wasteO a b c hs bs).2)] = _
   rw [hr]
   rfl
  ·
   rw [show (wasteI hs bs).2 = ask (allG hs bs) from grpR_snd hs bs] at hc1
   have hag : ask (allG hs bs) = true := by simpa using hc1
   have hwi : (wasteI hs bs).1 = sumA (wG hs bs) (gF hs bs) bs.length := by rw [wasteI_eq, if_pos hag]
   have hr : wasteO a b c hs bs = (sumA (wG hs bs) (gF hs bs) bs.length, 0) := by rw [wasteO, codeG_0 hc0 hag]; rfl
   simp only [hwi]
   refine awp_skip ?_
   refine awp_seq ?_
   refine r1 T0_ok hP hm hN ?_
   iterate 3 refine g1 ?_
   refine awp_ret ?_
   refine fin_mk [] rfl rfl ?_ trivial (by decide)
   show D.tup [.val (.int .i64 (wasteO a b c hs bs).1), .val (.int .i64 (wasteO a b c hs bs).2)] = _
   rw [hr]
   rfl



set_option linter.unusedSectionVars false
theorem validB_small {b : Bk} (h : validB b = true) : okB2 b := by
  have h2 : validBs [b] = true := by simp [validBs, h]
  exact (validBs_b2 h2).1 b (by simp)
theorem bkC_ok {code : List Int} (h : (∀ x ∈ code, 0 ≤ x ∧ x ≤ 255) ∧ code.length ≤ 1048576) : (∀ b ∈ bkC code, isBk b ∧ okB2 b ∧ b.high ≤ 290 ∧ b.wide ≤ 50) ∧ (bkC code).length ≤ 8 ∧ validBs (bkC code) = true := by
  have hD := lstC_ok h
  have hm : ∀ b ∈ bkC code, b ∈ lstC code := fun b hb => List.mem_of_mem_take hb
  have hl : (bkC code).length ≤ 8 := by unfold bkC; rw [List.length_take]; omega
  refine ⟨fun b hb => ?_, hl, ?_⟩
  · obtain ⟨h1, h2, h3, h4⟩ := hD.1 b (hm b hb)
    exact ⟨h1, validB_small h2, h3, h4⟩
  · rw [validBs, Bool.and_eq_true, decide_eq_true_eq, List.all_eq_true]
    exact ⟨by omega, fun b hb => (hD.1 b (hm b hb)).2.1⟩
theorem htC_ok {a b c : Int} {code : List Int} (h : (∀ x ∈ code, 0 ≤ x ∧ x ≤ 255) ∧ code.length ≤ 1048576) (hok : pegsOk a b c = true) : validH a b c (htC (a, b, c) code) = true ∧ pegH a b 400 ∈ htC (a, b, c) code := by
  have hs := (okSrc_from h).le (show (100 : Int) ≤ 1000 by omega)
  obtain ⟨h1, h2⟩ := dhR_ok (a := a) (b := b) hs
  have hr : RiseP a b (htC (a, b, c) code) := riseP_put h1 (by omega) (by omega)
  have hl := putI_lenA (dhR a b (code, 0, 0)).1 (pegH a b 400)
  have hm : pegH a b 400 ∈ htC (a, b, c) code := ((putI_rise h1.1 _).2 _).2 (.inl rfl)
  have hp := pegsOk_iff.1 hok
  refine ⟨?_, hm⟩
  have hl2 : (htC (a, b, c) code).length ≤ 6 := by
    have e : (htC (a, b, c) code).length = (putI (dhR a b (code, 0, 0)).1 (pegH a b 400)).length := rfl
    omega
  have hl1 := List.length_pos_of_mem hm
  rw [← okH_validH, okH]
  simp only [Bool.and_eq_true]
  refine ⟨⟨hok, inI_iff.2 (by omega)⟩, ask_true (fun i hi => ?_)⟩
  obtain ⟨x, x1, x2, he⟩ := hr.2 _ (getD_mem' (d := 0) hi)
  have hb := pegH_bounds (a := a) (high := x) hp.2.1.1
  refine ⟨by omega, ?_, fun h0 => ?_⟩
  · rw [he]; exact peg_peg hp.2.1.1 _
  · have := List.pairwise_iff_getElem.1 hr.1 (i - 1) i (by omega) hi (by omega)
    simpa [List.getD, hi, show i - 1 < (htC (a, b, c) code).length by omega] using this
structure BhOk (p : Int × Int × Int) (bs : List Bk) (hs : List Int) : Prop where
  ok : pegsOk p.1 p.2.1 p.2.2 = true
  pg : isPegs p
  bk : ∀ b ∈ bs, isBk b ∧ okB2 b ∧ b.high ≤ 290 ∧ b.wide ≤ 50
  len : bs.length ≤ 8
  vb : validBs bs = true
  vh : validH p.1 p.2.1 p.2.2 hs = true
  all : allG hs bs
theorem bhOk {xs ys : List Int} (hx : (∀ x ∈ xs, 0 ≤ x ∧ x ≤ 255) ∧ xs.length ≤ 1048576) (hy : (∀ x ∈ ys, 0 ≤ x ∧ x ≤ 255) ∧ ys.length ≤ 1048576) : BhOk (pgP (xs, 0, 0)) (bkC ys) (htC (pgP (xs, 0, 0)) xs) := by
  obtain ⟨p1, p2⟩ := pgP_ok ((okSrc_from hx).le (show (100 : Int) ≤ 1000 by omega))
  obtain ⟨b1, b2, b3⟩ := bkC_ok hy
  obtain ⟨h1, h2⟩ := htC_ok (c := (pgP (xs, 0, 0)).2.2) hx p1
  have hb := pegH_bounds (a := (pgP (xs, 0, 0)).1) (high := 400) (pegsOk_iff.1 p1).2.1.1
  exact ⟨p1, p2, b1, b2, b3, h1, allG_ex.2 (fun i hi => ⟨_, h2, by have := (b1 _ (getD_mem' (d := bk0) hi)).2.2.1; omega⟩)⟩
section
variable {a b c : Int} {bs : List Bk} {hs : List Int} (h : BhOk (a, b, c) bs hs)
include h
theorem BhOk.n1 : (!pegsOk a b c || !validBs bs) = false := by have h1 := h.ok; have h2 := h.vb; simp only at h1; rw [h1, h2]; rfl
theorem BhOk.n2 : (!validH a b c hs || !validBs bs) = false := by have h1 := h.vh; have h2 := h.vb; simp only at h1; rw [h1, h2]; rfl
theorem BhOk.o2 : ∀ b ∈ bs, okB2 b := fun b hb => (h.bk b hb).2.1
theorem BhOk.hts : htsR a b c bs = (htsI a b bs, 0) := by rw [htsR, if_neg (by rw [h.n1]; simp)]
theorem BhOk.peg {i : Nat} (hi : i < bs.length) : pegForR a b c (bs.getD i bk0).high = (pegH a b (bs.getD i bk0).high, 0) ∧ hasB (htsI a b bs) (pegH a b (bs.getD i bk0).high) = true := by
  have hb := h.bk _ (getD_mem' (d := bk0) hi)
  have h1 : pegsOk a b c = true := h.ok
  have hp := pegsOk_iff.1 h1
  have hq := pegH_bounds (a := a) (high := (bs.getD i bk0).high) hp.2.1.1
  have h2 : 50 ≤ (bs.getD i bk0).high := hb.2.1.2.1
  refine ⟨?_, ?_⟩
  · rw [pegForR, if_neg (by rw [h1]; simp), if_neg (by rw [inI_iff.2 (by omega)]; simp), if_neg (by omega)]
  · exact decide_eq_true (mem_htsI.2 ⟨i, hi, rfl⟩)
theorem BhOk.bst {n : Nat} (h1 : 1 ≤ n) (h4 : n ≤ 4) : bstR a b c bs (n : Int) = if (htsI a b bs).length < n then ([], 0, 6) else (bestL a b bs n, bestV a b bs n, 0) := by
  rw [bstR, if_neg (by rw [h.n1]; simp), if_neg (by rw [inI_iff.2 (by omega)]; simp)]
  by_cases hl : (htsI a b bs).length < n
  · rw [if_pos (by simpa using hl), if_pos hl]
  · rw [if_neg (by simpa using hl), if_neg hl, Int.toNat_natCast]
theorem BhOk.wst : wasteO a b c hs bs = (sumA (wG hs bs) (gF hs bs) bs.length, 0) := by rw [wasteO, codeG_0 h.n2 (ask_true h.all)]; rfl
theorem BhOk.add : ((addR a b c hs bs).2.2 = 0 ∧ (addR a b c hs bs).2.1 ≤ sumA (wG hs bs) (gF hs bs) bs.length ∧ hasB hs (addR a b c hs bs).1 = false ∧ hasB (htsI a b bs) (addR a b c hs bs).1 = true) ∨ (addR a b c hs bs).2.2 = 6 ∨ (addR a b c hs bs).2.2 = 3 := addR_law h.n2 h.o2 h.all
theorem BhOk.best {n : Nat} (h1 : 1 ≤ n) (h4 : n ≤ 4) (hm : n ≤ (htsI a b bs).length) :
    (bestL a b bs n).length = n ∧ (∀ x ∈ bestL a b bs n, hasB (htsI a b bs) x = true) ∧ wasteO a b c (bestL a b bs n) bs = (bestV a b bs n, 0) ∧ BhOk (a, b, c) bs (bestL a b bs n) := by
  have hl : bs.length ≤ 60 := by have := h.len; omega
  obtain ⟨f1, f2, f3⟩ := best_facts h.ok h.o2 hl h1 (by omega) hm
  have hv := best_valid h.ok h.o2 hl h1 (by omega) hm
  have ha := best_all h.ok h.o2 hl h1 (by omega) hm
  have hB : BhOk (a, b, c) bs (bestL a b bs n) := ⟨h.ok, h.pg, h.bk, h.len, h.vb, hv, ha⟩
  exact ⟨f1, fun x hx => decide_eq_true (f2 x hx), by rw [hB.wst, best_waste h.ok h.o2 hl h1 (by omega) hm], hB⟩
theorem BhOk.one (hm : 1 ≤ (htsI a b bs).length) : (bestL a b bs 1).getD 0 0 = (htsI a b bs).getD ((htsI a b bs).length - 1) 0 := by
  have hl : bs.length ≤ 60 := by have := h.len; omega
  obtain ⟨f1, _, f3⟩ := best_facts h.ok h.o2 hl (Nat.le_refl 1) (by omega) hm
  obtain ⟨j, hj, he⟩ := mem_getDH (d := 0) f3
  rw [show j = 0 by omega] at he
  exact he
theorem BhOk.down {n : Nat} (h1 : 2 ≤ n) (hm : n ≤ (htsI a b bs).length) : bestV a b bs n ≤ bestV a b bs (n - 1) := by
  have hl : bs.length ≤ 60 := by have := h.len; omega
  have := best_down (show pegsOk a b c = true from h.ok) h.o2 hl (k := n - 2) (by omega)
  rwa [show n - 2 + 2 = n by omega, show n - 2 + 1 = n - 1 by omega] at this
theorem BhOk.any100 : bs.any (fun b => decide (b.wide > 100)) = false := by
  rw [List.any_eq_false]
  intro x hx
  have := (h.bk x hx).2.2.2
  simp; omega
theorem BhOk.nz (hm : 1 ≤ (htsI a b bs).length) : 0 < bs.length := by
  obtain ⟨j, hj, _⟩ := mem_htsI.1 (getD_mem' (d := 0) (xs := htsI a b bs) (show 0 < (htsI a b bs).length by omega))
  omega
theorem BhOk.low (hm : 1 ≤ (htsI a b bs).length) : lowR a b c bs 100 = ((lowF a b c bs 100 (min 6 (htsI a b bs).length)).1, (lowF a b c bs 100 (min 6 (htsI a b bs).length)).2, 0) :=
  lowR_good (codeL_0 h.n1 (by decide) (by have := h.nz hm; omega) h.any100)
theorem BhOk.shel : shelO nedI a b c hs bs 100 = ((grpL hs bs).map (nedI bs 100), 0) := by
  rw [shelO, codeS_0 h.n2 (by decide) (ask_true h.all) h.any100]; rfl
theorem BhOk.cnt : countsOk hs ((grpL hs bs).map (nedI bs 100)) 60 = true := by
  have hl : bs.length ≤ 60 := by have := h.len; omega
  rw [countsOk, Bool.and_eq_true, List.all_eq_true]
  refine ⟨fun x hx => ?_, ?_⟩
  · obtain ⟨q, hq, rfl⟩ := List.mem_map.1 hx
    have h1 := nedI_b (bs := bs) (wide := 100) q
    have h2 := (grpL_ok hl q hq).2
    exact inI_iff.2 (by omega)
  · rw [List.length_map, decide_eq_true_eq, show (grpL hs bs).length = hs.length from grpF_len _ _ _]
theorem BhOk.tall : tallOfR a b c hs ((grpL hs bs).map (nedI bs 100)) (validH a b c hs) = (tallW c hs ((grpL hs bs).map (nedI bs 100)) hs.length, 0) := by
  have h1 := h.vh
  simp only at h1
  rw [tallOfR, if_neg (by rw [h1]; simp), if_neg (by rw [h.cnt]; simp)]
end
end Go.Proofs.YtheoapoddmmahaaGreat.Abs

