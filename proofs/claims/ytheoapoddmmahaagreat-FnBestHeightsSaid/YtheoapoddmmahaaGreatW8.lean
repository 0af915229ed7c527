import Derived.Test.YtheoapoddmmahaaGreatW7
set_option linter.unusedVariables false
set_option linter.unusedSimpArgs false
namespace Go.Proofs.YtheoapoddmmahaaGreat.Abs
open Go Go.RowKit
def fstOf {α : Type} (p : α → Bool) (xs : List α) : Int := if idxOf p xs ≥ 0 then idxOf p xs else xs.length
theorem fstOf_lt {α : Type} (p : α → Bool) (xs : List α) : 0 ≤ fstOf p xs ∧ fstOf p xs ≤ xs.length := by
  have := idxOf_lt p xs
  unfold fstOf
  split <;> omega
theorem fstOf_none {α : Type} (p : α → Bool) (xs : List α) : (fstOf p xs == (xs.length : Int)) = decide (idxOf p xs < 0) := by
  have := idxOf_lt p xs
  unfold fstOf
  rw [Bool.eq_iff_iff, beq_iff_eq, decide_eq_true_eq]
  split <;> omega
abbrev isHigh (h : Int) (n : Int) : Bool := decide (n ≥ h)
noncomputable abbrev s_S_l04For : Spec (List Int × Nat × List (List D) × Nat × Bk) where
  args := fun x => [.sl 1 (i64s x.1), .rptr x.2.1 x.2.2.1 x.2.2.2.1 0]
  pre := fun x => x.1.length ≤ 9223372036854775807 ∧ x.2.2.1[x.2.2.2.1]? = some (bkRow x.2.2.2.2) ∧ isBk x.2.2.2.2
  res := fun x => .val (.int .i64 (idxOf (isHigh x.2.2.2.2.high) x.1))

set_option maxRecDepth 20000 in
set_option maxHeartbeats 1000000 in
theorem ok_S_l04For : FnOk Pr 86 s_S_l04For := by
 refine fn_ok 2 0 T0_ok Go.Proofs.Tryz.func86 rfl (enters_of Go.Proofs.Tryz.func86 rfl rfl) (fun _ => rfl) (fun _ => rfl) (fun _ => rfl) ?_
 rintro ⟨xs, sz, rows, k, x⟩ ⟨hl, hrow, hb⟩ C hP hN hm hG
 change awp C _ _ ⟨[(0, .sl 1 (i64s xs)), (1, .rptr sz rows k 0)], [], 0⟩
 have hrow : rows[k]? = some (bkRow x) := hrow
 simp only at hl
 obtain ⟨hb_0, hb_1, hb_2, hb_3, hb_4, hb_5, hb_6, hb_7⟩ := hb
 have hb_0 : -32768 ≤ x.cls ∧ x.cls ≤ 32767 := hb_0
 have hb_1 : 0 ≤ x.m0 ∧ x.m0 ≤ 255 := hb_1
 have hb_2 : 0 ≤ x.m1 ∧ x.m1 ≤ 255 := hb_2
 have hb_3 : 0 ≤ x.m2 ∧ x.m2 ≤ 255 := hb_3
 have hb_4 : -32768 ≤ x.vol ∧ x.vol ≤ 32767 := hb_4
 have hb_5 : -32768 ≤ x.wide ∧ x.wide ≤ 32767 := hb_5
 have hb_6 : -32768 ≤ x.high ∧ x.high ≤ 32767 := hb_6
 have hb_7 : -32768 ≤ x.weight ∧ x.weight ≤ 32767 := hb_7
 refine awp_seq ?_
 refine r1 T0_ok hP hm hN ?_
 refine g1 ?_
 refine awp_seq ?_
 refine awp_seq ?_
 refine r1 T0_ok hP hm hN ?_
 refine g1 ?_
 refine awp_block ?_
 refine awp_loop (fun n st => ∃ i : Nat, i ≤ xs.length ∧ (∀ j, j < i → isHigh x.high (xs.getD j 0) = false) ∧ n = xs.length - i ∧ st = ⟨[(5, .val (.int .i64 (i : Nat))), (0, .sl 1 (i64s xs)), (1, .rptr sz rows k 0)], [], 0⟩) (xs.length) ⟨_, weak_sl (sub_cons rfl (sub_cons rfl (sub_cons rfl (sub_nil)))), 0, by omega, fun j h => by omega, rfl, rfl⟩ ?_
 rintro n st ⟨i, hii, hall, hni, rfl⟩
 refine awp_seq ?_
 refine awp_seq ?_
 refine r1 T0_ok hP hm hN ?_
 iterate 4 refine g1 ?_
 refine awp_cond rfl (fun hc0 => ?_) (fun hc0 => ?_)
 ·
  have hlti : i < xs.length := by simpa using hc0
  refine awp_skip ?_
  refine awp_seq ?_
  refine awp_block ?_
  refine awp_seq ?_
  refine awp_draw T0_ok hP hm hN Pr_mix [0, 1, 2, 3, 4, 5, 6, 7, 8, 9, 10, 11] [] _ rfl (by rfl) ?_
  iterate 10 refine d1 T0_ok ?_
  refine dreg_nil ?_
  refine awp_cond rfl (fun hc1 => ?_) (fun hc1 => ?_)
  ·
   refine awp_seq ?_
   refine r1 T0_ok hP hm hN ?_
   iterate 2 refine g1 ?_
   refine awp_ret ?_
   refine fin_mk [] rfl rfl ?_ trivial (by decide)
   show D.val (.int .i64 (idxOf (isHigh x.high) xs)) = _
   rw [idxOf_some (d := 0) hlti hc1 (fun j hj => hall j hj)]
   rfl
  ·
   refine awp_skip ?_
   refine r1 T0_ok hP hm hN ?_
   iterate 3 refine g1 ?_
   refine ⟨xs.length - (i + 1), _, by omega, weak_sl (sub_cons rfl (sub_cons rfl (sub_cons rfl (sub_nil)))), i + 1, by omega, upto_step hall hc1, rfl, rfl⟩
 ·
  have hgei : ¬ i < xs.length := by simpa using hc0
  have heqi : i = xs.length := by omega
  refine awp_exit ?_
  repeat refine thenA_exit ?_
  refine blockA_hit ?_
  refine awp_seq ?_
  refine r1 T0_ok hP hm hN ?_
  refine g1 ?_
  refine awp_ret ?_
  refine fin_mk [] rfl rfl ?_ trivial (by decide)
  show D.val (.int .i64 (idxOf (isHigh x.high) xs)) = _
  rw [idxOf_none (d := 0) (fun j hj => hall j (by omega))]
  rfl

noncomputable abbrev s_I_firstOf_int64 : Spec (List Int × D × (Int → Bool)) where
  args := fun x => [.sl 1 (i64s x.1), x.2.1]
  pre := fun x => x.1.length ≤ 9223372036854775807 ∧ Says i64D (· ∈ x.1) x.2.2 x.2.1
  res := fun x => .val (.int .i64 (fstOf x.2.2 x.1))

set_option maxRecDepth 20000 in
set_option maxHeartbeats 1000000 in
theorem ok_I_firstOf_int64 : FnOk Pr 90 s_I_firstOf_int64 := by
 refine fn_ok 2 0 T0_ok Go.Proofs.Tryz.func90 rfl (enters_of Go.Proofs.Tryz.func90 rfl rfl) (fun _ => rfl) (fun _ => rfl) (fun _ => rfl) ?_
 rintro ⟨xs, fn, p⟩ hp C hP hN hm hG
 change awp C _ _ ⟨[(0, .sl 1 (i64s xs)), (1, fn)], [], 0⟩
 refine awp_seq ?_
 refine r1 T0_ok hP hm hN ?_
 refine g1 ?_
 refine awp_seq ?_
 refine awp_seq ?_
 refine r1 T0_ok hP hm hN ?_
 iterate 2 refine g1 ?_
 refine gc1 ?_ (call1 ok_slices_IndexFunc_int64_int64 (_, _, p) [] (hargs := (by exact args_cons arga_slsl (args_cons (arga_does (by exact hp.2)) args_nil))) (hpre := by (try dsimp only); exact hp))
 refine g1 ?_
 refine awp_seq ?_
 refine r1 T0_ok hP hm hN ?_
 iterate 2 refine g1 ?_
 refine awp_cond rfl (fun hc0 => ?_) (fun hc0 => ?_)
 ·
  refine awp_seq ?_
  refine r1 T0_ok hP hm hN ?_
  iterate 2 refine g1 ?_
  refine awp_ret ?_
  refine fin_mk [] rfl rfl ?_ trivial (by decide)
  simp only [decide_eq_true_eq] at hc0
  show D.val (.int .i64 (fstOf p xs)) = _
  rw [fstOf, if_pos hc0]
  rfl
 ·
  refine awp_skip ?_
  refine awp_seq ?_
  refine r1 T0_ok hP hm hN ?_
  iterate 3 refine g1 ?_
  refine awp_ret ?_
  refine fin_mk [] rfl rfl ?_ trivial (by decide)
  simp only [decide_eq_false_iff_not] at hc0
  show D.val (.int .i64 (fstOf p xs)) = _
  rw [fstOf, if_neg hc0]
  rfl

noncomputable abbrev s_I_heightFor_1 : Spec (Int × Bk) where
  args := fun x => [i64D x.1, .rptr 8 [bkRow x.2] 0 0]
  pre := fun x => isBk x.2
  res := fun x => .val (.bool (isHigh x.2.high x.1))

set_option maxRecDepth 20000 in
set_option maxHeartbeats 1000000 in
theorem ok_I_heightFor_1 : FnOk Pr 107 s_I_heightFor_1 := by
 refine fn_ok 2 0 T0_ok Go.Proofs.Tryz.func107 rfl (enters_of Go.Proofs.Tryz.func107 rfl rfl) (fun _ => rfl) (fun _ => rfl) (fun _ => rfl) ?_
 rintro ⟨n, x⟩ hb C hP hN hm hG
 change awp C _ _ ⟨[(0, i64D n), (1, .rptr 8 [bkRow x] 0 0)], [], 0⟩
 obtain ⟨hb_0, hb_1, hb_2, hb_3, hb_4, hb_5, hb_6, hb_7⟩ := hb
 have hb_0 : -32768 ≤ x.cls ∧ x.cls ≤ 32767 := hb_0
 have hb_1 : 0 ≤ x.m0 ∧ x.m0 ≤ 255 := hb_1
 have hb_2 : 0 ≤ x.m1 ∧ x.m1 ≤ 255 := hb_2
 have hb_3 : 0 ≤ x.m2 ∧ x.m2 ≤ 255 := hb_3
 have hb_4 : -32768 ≤ x.vol ∧ x.vol ≤ 32767 := hb_4
 have hb_5 : -32768 ≤ x.wide ∧ x.wide ≤ 32767 := hb_5
 have hb_6 : -32768 ≤ x.high ∧ x.high ≤ 32767 := hb_6
 have hb_7 : -32768 ≤ x.weight ∧ x.weight ≤ 32767 := hb_7
 refine awp_seq ?_
 refine r1 T0_ok hP hm hN ?_
 refine g1 ?_
 refine awp_seq ?_
 refine r1 T0_ok hP hm hN ?_
 iterate 6 refine g1 ?_
 refine awp_ret ?_
 refine fin_mk [] rfl rfl ?_ trivial (by decide)
 rfl

theorem says_high {x : Bk} (hb : isBk x) (dom : Int → Prop) : Says i64D dom (isHigh x.high) (.clo (.func 107) [.rptr 8 [bkRow x] 0 0]) :=
  ⟨107, [], [.rptr 8 [bkRow x] 0 0], (s_I_heightFor_1).comap (fun n => (n, x)), rfl, rfl, rfl, ok_I_heightFor_1.comap _, fun _ => rfl, fun _ _ => hb, fun _ => rfl, fun _ => rfl, fun _ => rfl, fun _ => rfl⟩

noncomputable abbrev s_I_heightFor : Spec (List Int × Bk) where
  args := fun x => [.sl 1 (i64s x.1), bkD x.2]
  pre := fun x => x.1.length ≤ 9223372036854775807 ∧ isBk x.2
  res := fun x => .val (.int .i64 (fstOf (isHigh x.2.high) x.1))

set_option maxRecDepth 20000 in
set_option maxHeartbeats 1000000 in
theorem ok_I_heightFor : FnOk Pr 89 s_I_heightFor := by
 refine fn_ok 2 0 T0_ok Go.Proofs.Tryz.func89 rfl (enters_of Go.Proofs.Tryz.func89 rfl rfl) (fun _ => rfl) (fun _ => rfl) (fun _ => rfl) ?_
 rintro ⟨xs, x⟩ ⟨hl, hb⟩ C hP hN hm hG
 change awp C _ _ ⟨[(0, .sl 1 (i64s xs)), (1, .val (.agg #[.int .i16 x.cls, .int .u8 x.m0, .int .u8 x.m1, .int .u8 x.m2, .int .i16 x.vol, .int .i16 x.wide, .int .i16 x.high, .int .i16 x.weight]))], [], 0⟩
 refine awp_seq ?_
 refine r1 T0_ok hP hm hN ?_
 iterate 2 refine g1 ?_
 refine awp_seq ?_
 refine r1 T0_ok hP hm hN ?_
 iterate 2 refine g1 ?_
 refine gc1 ?_ (call1 ok_I_firstOf_int64 (_, _, isHigh x.high) [] (hpre := by (try dsimp only); exact ⟨hl, says_high hb _⟩))
 refine g1 ?_
 refine awp_ret ?_
 refine fin_mk [] rfl rfl ?_ trivial (by decide)
 rfl



end Go.Proofs.YtheoapoddmmahaaGreat.Abs

