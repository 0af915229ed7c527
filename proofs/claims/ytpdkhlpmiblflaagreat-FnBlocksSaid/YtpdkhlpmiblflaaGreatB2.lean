import Derived.Test.YtpdkhlpmiblflaaGreatB4
set_option linter.unusedVariables false
set_option linter.unusedSimpArgs false
namespace Go.Proofs.YtpdkhlpmiblflaaGreat.Abs
open Go Go.RowKit
abbrev Blk := Int × Int × Int
abbrev isBlk (b : Blk) : Prop := isI16 b.1 ∧ isI16 b.2.1 ∧ isI16 b.2.2
abbrev blkD (b : Blk) : D := .val (.agg #[.int .i16 b.1, .int .i16 b.2.1, .int .i16 b.2.2])
def blkBad (n : Nat) (b : Blk) : Bool := ((decide (b.2.1 < 1) || decide (b.1 < 0)) || decide (b.1 + b.2.1 > n)) || !inI b.2.2 0 (n - b.2.1)
def carB (xs : List Bk) (b : Blk) : List Bk := carried xs b.1.toNat b.2.1.toNat b.2.2.toNat
def bmR (xs : List Bk) (b : Blk) : List Bk × Bool := if blkBad xs.length b then ([], false) else (carB xs b, true)
theorem blk_nat {n : Nat} {b1 b2 b3 : Int} (h : (((decide (b2 < 1) || decide (b1 < 0)) || decide (b1 + b2 > n)) || !inI b3 0 (n - b2)) = false) : ∃ f c t : Nat, b1 = f ∧ b2 = c ∧ b3 = t ∧ 1 ≤ c ∧ f + c ≤ n ∧ t ≤ n - c := by
  simp only [Bool.or_eq_false_iff, decide_eq_false_iff_not, Bool.not_eq_false'] at h
  obtain ⟨⟨⟨h1, h2⟩, h3⟩, h4⟩ := h
  have h4 := inI_iff.1 h4
  exact ⟨b1.toNat, b2.toNat, b3.toNat, by omega, by omega, by omega, by omega, by omega, by omega⟩
theorem natadd' (a b : Nat) : (a : Int) + (b : Int) = ((a + b : Nat) : Int) := rfl

def br0 : Blk := (0, 0, 0)
abbrev brRow (b : Blk) : List D := [.val (.int .i16 b.1), .val (.int .i16 b.2.1), .val (.int .i16 b.2.2)]
abbrev brs (xs : List Blk) : List (List D) := xs.map brRow
theorem brs_get (xs : List Blk) (i : Nat) (h : i < xs.length) : (brs xs)[i]? = some (brRow (xs.getD i br0)) := map_get brRow xs i h
theorem flat_brs (ty : TypeId) (sz : Nat) (dp : Bool) (xs : List Blk) : flatO ⟨ty, sz, dp, brs xs⟩ := flatO_map brRow (fun a d hd => by simp only [brRow, List.mem_cons, List.not_mem_nil, or_false] at hd; rcases hd with rfl | rfl | rfl <;> rfl) _ _ _ _

abbrev bkKs : List IntKind := [.i16, .u8, .u8, .u8, .i16, .i16, .i16, .i16]
abbrev bkNs (x : Bk) : List Int := [x.cls, x.m0, x.m1, x.m2, x.vol, x.wide, x.high, x.weight]
theorem eqT_i16 (n : Nat) : EqT Pr (n + 1) 38 false [.i16] := eqT_int T0_ok rfl rfl rfl
theorem eqT_u8 (n : Nat) : EqT Pr (n + 1) 5 false [.u8] := eqT_int T0_ok rfl rfl rfl
theorem eqT_a3 : EqT Pr 2 71 true [.u8, .u8, .u8] := eqT_arr3 T0_ok rfl rfl rfl (eqT_u8 0)
set_option maxRecDepth 100000 in
theorem eqT_bk : EqT Pr 3 73 true bkKs := eqT_struct (kss := [[.i16], [.u8, .u8, .u8], [.i16], [.i16], [.i16], [.i16]]) T0_ok rfl (by kernel_rfl) (by kernel_rfl) ⟨by decide +kernel, by kernel_rfl, ⟨_, eqT_i16 1⟩, by decide +kernel, by kernel_rfl, ⟨_, eqT_a3⟩, by decide +kernel, by kernel_rfl, ⟨_, eqT_i16 1⟩, by decide +kernel, by kernel_rfl, ⟨_, eqT_i16 1⟩, by decide +kernel, by kernel_rfl, ⟨_, eqT_i16 1⟩, by decide +kernel, by kernel_rfl, ⟨_, eqT_i16 1⟩, trivial⟩ rfl rfl
theorem eqG_bk : Pr.eqGuardType Pr.depth 73 = false := by kernel_rfl

noncomputable abbrev s_S_l01Same : Spec (List Bk) where
  args := fun xs => [.sl 8 (bks xs), .sl 8 (bks xs)]
  pre := fun xs => xs.length ≤ 1048576
  res := fun xs => .val (.bool true)

set_option maxRecDepth 20000 in
set_option maxHeartbeats 1000000 in
theorem ok_S_l01Same : FnOk Pr 39 s_S_l01Same := by
 refine fn_ok 2 0 T0_ok Go.Proofs.Tryz.func39 rfl (enters_of Go.Proofs.Tryz.func39 rfl rfl) (fun _ => rfl) (fun _ => rfl) (fun _ => rfl) ?_
 rintro xs hl C hP hN hm hG
 change awp C _ _ ⟨[(0, .sl 8 (bks xs)), (1, .sl 8 (bks xs))], [], 0⟩
 have hl : xs.length ≤ 1048576 := hl
 refine awp_seq ?_
 refine r1 T0_ok hP hm hN ?_
 refine g1 ?_
 refine awp_seq ?_
 refine awp_seq ?_
 refine r1 T0_ok hP hm hN ?_
 iterate 5 refine g1 ?_
 refine awp_cond rfl (fun hc0 => ?_) (fun hc0 => ?_)
 ·
  exfalso; simp at hc0
 ·
  refine awp_skip ?_
  refine awp_seq ?_
  refine awp_seq ?_
  refine r1 T0_ok hP hm hN ?_
  refine g1 ?_
  refine awp_block ?_
  refine awp_loop (fun n st => ∃ i : Nat, i ≤ xs.length ∧ n = xs.length - i ∧ st = ⟨[(5, .val (.int .i64 ((i : Nat) : Int))), (0, .sl 8 (bks xs)), (1, .sl 8 (bks xs))], [], 0⟩) (xs.length) ⟨_, weak_sl (sub_cons rfl (sub_cons rfl (sub_cons rfl (sub_nil)))), 0, by omega, rfl, rfl⟩ ?_
  rintro n st ⟨i, hii, hni, rfl⟩
  refine awp_seq ?_
  refine awp_seq ?_
  refine r1 T0_ok hP hm hN ?_
  iterate 4 refine g1 ?_
  refine awp_cond rfl (fun hc1 => ?_) (fun hc1 => ?_)
  ·
   have hlti : i < xs.length := by simpa using hc1
   refine awp_skip ?_
   refine awp_seq ?_
   refine awp_block ?_
   refine awp_seq ?_
   refine awp_draw T0_ok hP hm hN Pr_mix [0, 1, 2, 3, 4, 5, 6, 7, 8, 9, 10, 11] [] _ rfl (by rfl) ?_
   iterate 8 refine d1 T0_ok ?_
   refine dfr ?_ (fun hp nx => oprel_neS (xs := bkNs (xs.getD i bk0)) (ys := bkNs (xs.getD i bk0)) eqT_bk (by omega) eqG_bk rfl rfl rfl rfl rfl)
   refine dreg_nil ?_
   refine awp_cond rfl (fun hc2 => ?_) (fun hc2 => ?_)
   ·
    exfalso; simp at hc2
   ·
    refine awp_skip ?_
    refine r1 T0_ok hP hm hN ?_
    iterate 3 refine g1 ?_
    refine ⟨xs.length - (i + 1), _, by omega, weak_sl (sub_cons rfl (sub_cons rfl (sub_cons rfl (sub_nil)))), i + 1, by omega, rfl, rfl⟩
  ·
   have hgei : ¬ i < xs.length := by simpa using hc1
   have heqi : i = xs.length := by omega
   refine awp_exit ?_
   repeat refine thenA_exit ?_
   refine blockA_hit ?_
   refine awp_seq ?_
   refine r1 T0_ok hP hm hN ?_
   refine g1 ?_
   refine awp_ret ?_
   refine fin_mk [] rfl rfl ?_ trivial (by decide)
   rfl

noncomputable abbrev s_S_SameBooks : Spec (List Bk) where
  args := fun xs => [.sl 8 (bks xs), .sl 8 (bks xs)]
  pre := fun xs => xs.length ≤ 1048576
  res := fun xs => .val (.bool true)

set_option maxRecDepth 20000 in
set_option maxHeartbeats 1000000 in
theorem ok_S_SameBooks : FnOk Pr 15 s_S_SameBooks := by
 refine fn_ok 2 0 T0_ok Go.Proofs.Tryz.func15 rfl (enters_of Go.Proofs.Tryz.func15 rfl rfl) (fun _ => rfl) (fun _ => rfl) (fun _ => rfl) ?_
 rintro xs hl C hP hN hm hG
 change awp C _ _ ⟨[(0, .sl 8 (bks xs)), (1, .sl 8 (bks xs))], [], 0⟩
 have hl : xs.length ≤ 1048576 := hl
 refine awp_seq ?_
 refine r1 T0_ok hP hm hN ?_
 refine g1 ?_
 refine awp_seq ?_
 refine r1 T0_ok hP hm hN ?_
 iterate 2 refine g1 ?_
 refine gc1 ?_ (call1 ok_S_l01Same _ [] (hpre := by (try dsimp only); omega))
 refine g1 ?_
 refine awp_ret ?_
 refine fin_mk [] rfl rfl ?_ trivial (by decide)
 rfl

abbrev blKs : List IntKind := [.i16, .i16, .i16]
abbrev blNs (x : Blk) : List Int := [x.1, x.2.1, x.2.2]
set_option maxRecDepth 100000 in
theorem eqT_bl : EqT Pr 2 40 true blKs := eqT_struct (kss := [[.i16], [.i16], [.i16]]) T0_ok rfl (by kernel_rfl) (by kernel_rfl) ⟨by decide +kernel, by kernel_rfl, ⟨_, eqT_i16 0⟩, by decide +kernel, by kernel_rfl, ⟨_, eqT_i16 0⟩, by decide +kernel, by kernel_rfl, ⟨_, eqT_i16 0⟩, trivial⟩ rfl rfl
theorem eqG_bl : Pr.eqGuardType Pr.depth 40 = false := by kernel_rfl

noncomputable abbrev s_S_SameBlocks : Spec (List Blk) where
  args := fun xs => [.sl 3 (brs xs), .sl 3 (brs xs)]
  pre := fun xs => xs.length ≤ 1048576
  res := fun xs => .val (.bool true)

set_option maxRecDepth 20000 in
set_option maxHeartbeats 1000000 in
theorem ok_S_SameBlocks : FnOk Pr 14 s_S_SameBlocks := by
 refine fn_ok 2 0 T0_ok Go.Proofs.Tryz.func14 rfl (enters_of Go.Proofs.Tryz.func14 rfl rfl) (fun _ => rfl) (fun _ => rfl) (fun _ => rfl) ?_
 rintro xs hl C hP hN hm hG
 change awp C _ _ ⟨[(0, .sl 3 (brs xs)), (1, .sl 3 (brs xs))], [], 0⟩
 have hl : xs.length ≤ 1048576 := hl
 refine awp_seq ?_
 refine r1 T0_ok hP hm hN ?_
 refine g1 ?_
 refine awp_seq ?_
 refine awp_seq ?_
 refine r1 T0_ok hP hm hN ?_
 iterate 5 refine g1 ?_
 refine awp_cond rfl (fun hc0 => ?_) (fun hc0 => ?_)
 ·
  exfalso; simp at hc0
 ·
  refine awp_skip ?_
  refine awp_seq ?_
  refine awp_seq ?_
  refine r1 T0_ok hP hm hN ?_
  refine g1 ?_
  refine awp_block ?_
  refine awp_loop (fun n st => ∃ i : Nat, i ≤ xs.length ∧ n = xs.length - i ∧ st = ⟨[(5, .val (.int .i64 ((i : Nat) : Int))), (0, .sl 3 (brs xs)), (1, .sl 3 (brs xs))], [], 0⟩) (xs.length) ⟨_, weak_sl (sub_cons rfl (sub_cons rfl (sub_cons rfl (sub_nil)))), 0, by omega, rfl, rfl⟩ ?_
  rintro n st ⟨i, hii, hni, rfl⟩
  refine awp_seq ?_
  refine awp_seq ?_
  refine r1 T0_ok hP hm hN ?_
  iterate 4 refine g1 ?_
  refine awp_cond rfl (fun hc1 => ?_) (fun hc1 => ?_)
  ·
   have hlti : i < xs.length := by simpa using hc1
   have hgx := brs_get xs i hlti
   refine awp_skip ?_
   refine awp_seq ?_
   refine awp_block ?_
   refine awp_seq ?_
   refine awp_draw T0_ok hP hm hN Pr_mix [0, 1, 2, 3, 4, 5, 6, 7, 8, 9, 10, 11] [] _ rfl (by rfl) ?_
   iterate 8 refine d1 T0_ok ?_
   refine dfr ?_ (fun hp nx => oprel_neS (xs := blNs (xs.getD i br0)) (ys := blNs (xs.getD i br0)) eqT_bl (by omega) eqG_bl rfl rfl rfl rfl rfl)
   refine dreg_nil ?_
   refine awp_cond rfl (fun hc2 => ?_) (fun hc2 => ?_)
   ·
    exfalso; simp at hc2
   ·
    refine awp_skip ?_
    refine r1 T0_ok hP hm hN ?_
    iterate 3 refine g1 ?_
    refine ⟨xs.length - (i + 1), _, by omega, weak_sl (sub_cons rfl (sub_cons rfl (sub_cons rfl (sub_nil)))), i + 1, by omega, rfl, rfl⟩
  ·
   have hgei : ¬ i < xs.length := by simpa using hc1
   have heqi : i = xs.length := by omega
   refine awp_exit ?_
   repeat refine thenA_exit ?_
   refine blockA_hit ?_
   refine awp_seq ?_
   refine r1 T0_ok hP hm hN ?_
   refine g1 ?_
   refine awp_ret ?_
   refine fin_mk [] rfl rfl ?_ trivial (by decide)
   rfl
end Go.Proofs.YtpdkhlpmiblflaaGreat.Abs

