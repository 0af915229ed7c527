import Derived.Test.YthdgihkffcmkiaaQ8
set_option linter.unusedVariables false
set_option linter.unusedSimpArgs false
namespace Go.Proofs.Ythdgihkffcmkiaa.Abs
open Go Go.RowKit
noncomputable abbrev s_S_l00Same : Spec (List Int) where
  args := fun xs => [.sl 1 (i64s xs), .sl 1 (i64s xs)]
  pre := fun xs => xs.length ≤ 1048576
  res := fun xs => .val (.bool true)

set_option maxRecDepth 20000 in
set_option maxHeartbeats 1000000 in
theorem ok_S_l00Same : FnOk Pr 27 s_S_l00Same := by
  refine fn_ok 2 0 T0_ok Go.Proofs.Try.func27 rfl (enters_of Go.Proofs.Try.func27 rfl rfl) (fun _ => rfl) (fun _ => rfl) (fun _ => rfl) ?_
  rintro xs hl C hP hN hm hG
  change awp C _ _ ⟨[(0, .sl 1 (i64s xs)), (1, .sl 1 (i64s xs))], [], 0⟩
  have hl : xs.length ≤ 1048576 := hl
  refine awp_seq ?_
  refine r1 T0_ok hP hm hN ?_
  refine g1 ?_
  refine awp_seq ?_
  refine awp_seq ?_
  refine r1 T0_ok hP hm hN ?_
  refine g1 ?_
  refine g1 ?_
  refine g1 ?_
  refine g1 ?_
  refine g1 ?_
  refine awp_cond rfl (fun hc0 => ?_) (fun hc0 => ?_)
  · skip
    exfalso; simp at hc0
  · skip
    refine awp_skip ?_
    refine awp_seq ?_
    refine awp_seq ?_
    refine r1 T0_ok hP hm hN ?_
    refine g1 ?_
    refine awp_block ?_
    refine awp_loop (fun n st => ∃ i : Nat, i ≤ xs.length ∧ n = xs.length - i ∧ st = ⟨[(5, .val (.int .i64 ((i : Nat) : Int))), (0, .sl 1 (i64s xs)), (1, .sl 1 (i64s xs))], [], 0⟩) (xs.length) ⟨_, weak_sl (sub_cons rfl (sub_cons rfl (sub_cons rfl (sub_nil)))), 0, by omega, rfl, rfl⟩ ?_
    rintro n st ⟨i, hii, hni, rfl⟩
    refine awp_seq ?_
    refine awp_seq ?_
    refine r1 T0_ok hP hm hN ?_
    refine g1 ?_
    refine g1 ?_
    refine g1 ?_
    refine g1 ?_
    refine awp_cond rfl (fun hc1 => ?_) (fun hc1 => ?_)
    · skip
      have hlti : i < xs.length := by simpa using hc1
      refine awp_skip ?_
      refine awp_seq ?_
      refine awp_block ?_
      refine awp_seq ?_
      refine awp_draw T0_ok hP hm hN Pr_mix [0, 1, 2, 3, 4, 5, 6, 7, 8, 9, 10, 11] [] _ rfl (by rfl) ?_
      refine d1 T0_ok ?_
      refine d1 T0_ok ?_
      refine d1 T0_ok ?_
      refine d1 T0_ok ?_
      refine d1 T0_ok ?_
      refine d1 T0_ok ?_
      refine d1 T0_ok ?_
      refine d1 T0_ok ?_
      refine d1 T0_ok ?_
      refine dreg_nil ?_
      refine awp_cond rfl (fun hc2 => ?_) (fun hc2 => ?_)
      · skip
        exfalso; simp at hc2
      · skip
        refine awp_skip ?_
        refine r1 T0_ok hP hm hN ?_
        refine g1 ?_
        refine g1 ?_
        refine g1 ?_
        refine ⟨xs.length - (i + 1), _, by omega, weak_sl (sub_cons rfl (sub_cons rfl (sub_cons rfl (sub_nil)))), i + 1, by omega, rfl, rfl⟩
    · skip
      have hgei : ¬ i < xs.length := by simpa using hc1
      have heqi : i = xs.length := by omega
      refine awp_exit ?_
      repeat refine thenA_exit ?_
      refine blockA_hit ?_
      refine awp_seq ?_
      refine r1 T0_ok hP hm hN ?_
      refine g1 ?_
      refine awp_ret ?_
      refine fin_mk [] rfl rfl ?_ trivial (by decide)
      rfl

noncomputable abbrev s_S_SameNumbers : Spec (List Int) where
  args := fun xs => [.sl 1 (i64s xs), .sl 1 (i64s xs)]
  pre := fun xs => xs.length ≤ 1048576
  res := fun xs => .val (.bool true)

set_option maxRecDepth 20000 in
set_option maxHeartbeats 1000000 in
theorem ok_S_SameNumbers : FnOk Pr 10 s_S_SameNumbers := by
  refine fn_ok 2 0 T0_ok Go.Proofs.Try.func10 rfl (enters_of Go.Proofs.Try.func10 rfl rfl) (fun _ => rfl) (fun _ => rfl) (fun _ => rfl) ?_
  rintro xs hl C hP hN hm hG
  change awp C _ _ ⟨[(0, .sl 1 (i64s xs)), (1, .sl 1 (i64s xs))], [], 0⟩
  have hl : xs.length ≤ 1048576 := hl
  refine awp_seq ?_
  refine r1 T0_ok hP hm hN ?_
  refine g1 ?_
  refine awp_seq ?_
  refine r1 T0_ok hP hm hN ?_
  refine g1 ?_
  refine g1 ?_
  refine gc1 ?_ (call1 ok_S_l00Same _ [] (hpre := by (try dsimp only); omega))
  refine g1 ?_
  refine awp_ret ?_
  refine fin_mk [] rfl rfl ?_ trivial (by decide)
  rfl

abbrev bkKs : List IntKind := [.i16, .u8, .u8, .u8, .i16, .i16, .i16, .i16]
abbrev bkNs (x : Bk) : List Int := [x.cls, x.m0, x.m1, x.m2, x.vol, x.wide, x.high, x.weight]
theorem eqT_i16 (n : Nat) : EqT Pr (n + 1) 36 false [.i16] := eqT_int T0_ok rfl rfl rfl
theorem eqT_u8 (n : Nat) : EqT Pr (n + 1) 5 false [.u8] := eqT_int T0_ok rfl rfl rfl
theorem eqT_a3 : EqT Pr 2 37 true [.u8, .u8, .u8] := eqT_arr3 T0_ok rfl rfl rfl (eqT_u8 0)
set_option maxRecDepth 100000 in
theorem eqT_bk : EqT Pr 3 39 true bkKs := eqT_struct (kss := [[.i16], [.u8, .u8, .u8], [.i16], [.i16], [.i16], [.i16]]) T0_ok rfl (by kernel_rfl) (by kernel_rfl) ⟨by decide +kernel, by kernel_rfl, ⟨_, eqT_i16 1⟩, by decide +kernel, by kernel_rfl, ⟨_, eqT_a3⟩, by decide +kernel, by kernel_rfl, ⟨_, eqT_i16 1⟩, by decide +kernel, by kernel_rfl, ⟨_, eqT_i16 1⟩, by decide +kernel, by kernel_rfl, ⟨_, eqT_i16 1⟩, by decide +kernel, by kernel_rfl, ⟨_, eqT_i16 1⟩, trivial⟩ rfl rfl
theorem eqG_bk : Pr.eqGuardType Pr.depth 39 = false := by kernel_rfl

noncomputable abbrev s_S_l01Same : Spec (List Bk) where
  args := fun xs => [.sl 8 (bks xs), .sl 8 (bks xs)]
  pre := fun xs => xs.length ≤ 1048576
  res := fun xs => .val (.bool true)

set_option maxRecDepth 20000 in
set_option maxHeartbeats 1000000 in
theorem ok_S_l01Same : FnOk Pr 28 s_S_l01Same := by
  refine fn_ok 2 0 T0_ok Go.Proofs.Try.func28 rfl (enters_of Go.Proofs.Try.func28 rfl rfl) (fun _ => rfl) (fun _ => rfl) (fun _ => rfl) ?_
  rintro xs hl C hP hN hm hG
  change awp C _ _ ⟨[(0, .sl 8 (bks xs)), (1, .sl 8 (bks xs))], [], 0⟩
  have hl : xs.length ≤ 1048576 := hl
  refine awp_seq ?_
  refine r1 T0_ok hP hm hN ?_
  refine g1 ?_
  refine awp_seq ?_
  refine awp_seq ?_
  refine r1 T0_ok hP hm hN ?_
  refine g1 ?_
  refine g1 ?_
  refine g1 ?_
  refine g1 ?_
  refine g1 ?_
  refine awp_cond rfl (fun hc0 => ?_) (fun hc0 => ?_)
  · skip
    exfalso; simp at hc0
  · skip
    refine awp_skip ?_
    refine awp_seq ?_
    refine awp_seq ?_
    refine r1 T0_ok hP hm hN ?_
    refine g1 ?_
    refine awp_block ?_
    refine awp_loop (fun n st => ∃ i : Nat, i ≤ xs.length ∧ n = xs.length - i ∧ st = ⟨[(5, .val (.int .i64 ((i : Nat) : Int))), (0, .sl 8 (bks xs)), (1, .sl 8 (bks xs))], [], 0⟩) (xs.length) ⟨_, weak_sl (sub_cons rfl (sub_cons rfl (sub_cons rfl (sub_nil)))), 0, by omega, rfl, rfl⟩ ?_
    rintro n st ⟨i, hii, hni, rfl⟩
    refine awp_seq ?_
    refine awp_seq ?_
    refine r1 T0_ok hP hm hN ?_
    refine g1 ?_
    refine g1 ?_
    refine g1 ?_
    refine g1 ?_
    refine awp_cond rfl (fun hc1 => ?_) (fun hc1 => ?_)
    · skip
      have hlti : i < xs.length := by simpa using hc1
      refine awp_skip ?_
      refine awp_seq ?_
      refine awp_block ?_
      refine awp_seq ?_
      refine awp_draw T0_ok hP hm hN Pr_mix [0, 1, 2, 3, 4, 5, 6, 7, 8, 9, 10, 11] [] _ rfl (by rfl) ?_
      refine d1 T0_ok ?_
      refine d1 T0_ok ?_
      refine d1 T0_ok ?_
      refine d1 T0_ok ?_
      refine d1 T0_ok ?_
      refine d1 T0_ok ?_
      refine d1 T0_ok ?_
      refine d1 T0_ok ?_
      refine dfr ?_ (fun hp nx => oprel_neS (xs := bkNs (xs.getD i bk0)) (ys := bkNs (xs.getD i bk0)) eqT_bk (by omega) eqG_bk rfl rfl rfl rfl rfl)
      refine dreg_nil ?_
      refine awp_cond rfl (fun hc2 => ?_) (fun hc2 => ?_)
      · skip
        exfalso; simp at hc2
      · skip
        refine awp_skip ?_
        refine r1 T0_ok hP hm hN ?_
        refine g1 ?_
        refine g1 ?_
        refine g1 ?_
        refine ⟨xs.length - (i + 1), _, by omega, weak_sl (sub_cons rfl (sub_cons rfl (sub_cons rfl (sub_nil)))), i + 1, by omega, rfl, rfl⟩
    · skip
      have hgei : ¬ i < xs.length := by simpa using hc1
      have heqi : i = xs.length := by omega
      refine awp_exit ?_
      repeat refine thenA_exit ?_
      refine blockA_hit ?_
      refine awp_seq ?_
      refine r1 T0_ok hP hm hN ?_
      refine g1 ?_
      refine awp_ret ?_
      refine fin_mk [] rfl rfl ?_ trivial (by decide)
      rfl

noncomputable abbrev s_S_SameBooks : Spec (List Bk) where
  args := fun xs => [.sl 8 (bks xs), .sl 8 (bks xs)]
  pre := fun xs => xs.length ≤ 1048576
  res := fun xs => .val (.bool true)

set_option maxRecDepth 20000 in
set_option maxHeartbeats 1000000 in
theorem ok_S_SameBooks : FnOk Pr 11 s_S_SameBooks := by
  refine fn_ok 2 0 T0_ok Go.Proofs.Try.func11 rfl (enters_of Go.Proofs.Try.func11 rfl rfl) (fun _ => rfl) (fun _ => rfl) (fun _ => rfl) ?_
  rintro xs hl C hP hN hm hG
  change awp C _ _ ⟨[(0, .sl 8 (bks xs)), (1, .sl 8 (bks xs))], [], 0⟩
  have hl : xs.length ≤ 1048576 := hl
  refine awp_seq ?_
  refine r1 T0_ok hP hm hN ?_
  refine g1 ?_
  refine awp_seq ?_
  refine r1 T0_ok hP hm hN ?_
  refine g1 ?_
  refine g1 ?_
  refine gc1 ?_ (call1 ok_S_l01Same _ [] (hpre := by (try dsimp only); omega))
  refine g1 ?_
  refine awp_ret ?_
  refine fin_mk [] rfl rfl ?_ trivial (by decide)
  rfl

abbrev mvKs : List IntKind := [.i16, .i16]
abbrev mvNs (x : Mv) : List Int := [x.1, x.2]
set_option maxRecDepth 100000 in
theorem eqT_mv : EqT Pr 2 47 true mvKs := eqT_struct (kss := [[.i16], [.i16]]) T0_ok rfl (by kernel_rfl) (by kernel_rfl) ⟨by decide +kernel, by kernel_rfl, ⟨_, eqT_i16 0⟩, by decide +kernel, by kernel_rfl, ⟨_, eqT_i16 0⟩, trivial⟩ rfl rfl
theorem eqG_mv : Pr.eqGuardType Pr.depth 47 = false := by kernel_rfl

noncomputable abbrev s_S_SameMoves : Spec (List Mv) where
  args := fun xs => [.sl 2 (mvs xs), .sl 2 (mvs xs)]
  pre := fun xs => xs.length ≤ 1048576
  res := fun xs => .val (.bool true)

set_option maxRecDepth 20000 in
set_option maxHeartbeats 1000000 in
theorem ok_S_SameMoves : FnOk Pr 17 s_S_SameMoves := by
  refine fn_ok 2 0 T0_ok Go.Proofs.Try.func17 rfl (enters_of Go.Proofs.Try.func17 rfl rfl) (fun _ => rfl) (fun _ => rfl) (fun _ => rfl) ?_
  rintro xs hl C hP hN hm hG
  change awp C _ _ ⟨[(0, .sl 2 (mvs xs)), (1, .sl 2 (mvs xs))], [], 0⟩
  have hl : xs.length ≤ 1048576 := hl
  refine awp_seq ?_
  refine r1 T0_ok hP hm hN ?_
  refine g1 ?_
  refine awp_seq ?_
  refine awp_seq ?_
  refine r1 T0_ok hP hm hN ?_
  refine g1 ?_
  refine g1 ?_
  refine g1 ?_
  refine g1 ?_
  refine g1 ?_
  refine awp_cond rfl (fun hc0 => ?_) (fun hc0 => ?_)
  · skip
    exfalso; simp at hc0
  · skip
    refine awp_skip ?_
    refine awp_seq ?_
    refine awp_seq ?_
    refine r1 T0_ok hP hm hN ?_
    refine g1 ?_
    refine awp_block ?_
    refine awp_loop (fun n st => ∃ i : Nat, i ≤ xs.length ∧ n = xs.length - i ∧ st = ⟨[(5, .val (.int .i64 ((i : Nat) : Int))), (0, .sl 2 (mvs xs)), (1, .sl 2 (mvs xs))], [], 0⟩) (xs.length) ⟨_, weak_sl (sub_cons rfl (sub_cons rfl (sub_cons rfl (sub_nil)))), 0, by omega, rfl, rfl⟩ ?_
    rintro n st ⟨i, hii, hni, rfl⟩
    refine awp_seq ?_
    refine awp_seq ?_
    refine r1 T0_ok hP hm hN ?_
    refine g1 ?_
    refine g1 ?_
    refine g1 ?_
    refine g1 ?_
    refine awp_cond rfl (fun hc1 => ?_) (fun hc1 => ?_)
    · skip
      have hlti : i < xs.length := by simpa using hc1
      have hgx := mvs_get xs i hlti
      refine awp_skip ?_
      refine awp_seq ?_
      refine awp_block ?_
      refine awp_seq ?_
      refine awp_draw T0_ok hP hm hN Pr_mix [0, 1, 2, 3, 4, 5, 6, 7, 8, 9, 10, 11] [] _ rfl (by rfl) ?_
      refine d1 T0_ok ?_
      refine d1 T0_ok ?_
      refine d1 T0_ok ?_
      refine d1 T0_ok ?_
      refine d1 T0_ok ?_
      refine d1 T0_ok ?_
      refine d1 T0_ok ?_
      refine d1 T0_ok ?_
      refine dfr ?_ (fun hp nx => oprel_neS (xs := mvNs (xs.getD i mv0)) (ys := mvNs (xs.getD i mv0)) eqT_mv (by omega) eqG_mv rfl rfl rfl rfl rfl)
      refine dreg_nil ?_
      refine awp_cond rfl (fun hc2 => ?_) (fun hc2 => ?_)
      · skip
        exfalso; simp at hc2
      · skip
        refine awp_skip ?_
        refine r1 T0_ok hP hm hN ?_
        refine g1 ?_
        refine g1 ?_
        refine g1 ?_
        refine ⟨xs.length - (i + 1), _, by omega, weak_sl (sub_cons rfl (sub_cons rfl (sub_cons rfl (sub_nil)))), i + 1, by omega, rfl, rfl⟩
    · skip
      have hgei : ¬ i < xs.length := by simpa using hc1
      have heqi : i = xs.length := by omega
      refine awp_exit ?_
      repeat refine thenA_exit ?_
      refine blockA_hit ?_
      refine awp_seq ?_
      refine r1 T0_ok hP hm hN ?_
      refine g1 ?_
      refine awp_ret ?_
      refine fin_mk [] rfl rfl ?_ trivial (by decide)
      rfl


theorem take_getD' {α : Type} {d : α} {xs : List α} {i k : Nat} (h : k < i) : (xs.take i).getD k d = xs.getD k d := by
  simp [List.getD, h]
abbrev mvIn (l : Int) (m : Mv) : Bool := inI m.1 0 l && inI m.2 0 l
def swI (xs : List Bk) (ms : List Mv) : Nat → List Bk
  | 0 => xs
  | i + 1 => swpB (swI xs ms i) (ms.getD i mv0).1.toNat (ms.getD i mv0).2.toNat
theorem swpB_len (xs : List Bk) (i k : Nat) : (swpB xs i k).length = xs.length := by simp [swpB]
theorem swI_len (xs : List Bk) (ms : List Mv) : ∀ i, (swI xs ms i).length = xs.length
  | 0 => rfl
  | i + 1 => by rw [swI, swpB_len, swI_len xs ms i]
def prB (xs : List Bk) (i k : Nat) : Bool := decide (cmpU (xs.getD i bk0) (xs.getD k bk0) < 0)
def prO (xs : List Bk) : Nat → Int
  | 0 => 0
  | i + 1 => prO xs i + cntF (prB xs i) i
theorem prO_b (xs : List Bk) : ∀ i : Nat, i ≤ 60 → 0 ≤ prO xs i ∧ prO xs i ≤ 60 * i
  | 0, _ => by simp [prO]
  | i + 1, h => by
    have h1 := prO_b xs i (by omega)
    have h2 := cntF_b (prB xs i) i
    rw [prO]
    omega


noncomputable abbrev s_slices_IndexFunc_I_Move_I_Move : Spec (List Mv × D × (Mv → Bool)) where
  args := fun x => [.sl 2 (mvs x.1), x.2.1]
  pre := fun x => x.1.length ≤ 9223372036854775807 ∧ Says mvD (· ∈ x.1) x.2.2 x.2.1
  res := fun x => .val (.int .i64 (idxOf x.2.2 x.1))

set_option maxRecDepth 20000 in
set_option maxHeartbeats 1000000 in
theorem ok_slices_IndexFunc_I_Move_I_Move : FnOk Pr 64 s_slices_IndexFunc_I_Move_I_Move := by
  refine fn_ok 2 0 T0_ok Go.Proofs.Try.func64 rfl (enters_of Go.Proofs.Try.func64 rfl rfl) (fun _ => rfl) (fun _ => rfl) (fun _ => rfl) ?_
  rintro ⟨xs, fn, p⟩ ⟨hp, hask⟩ C hP hN hm hG
  change awp C _ _ ⟨[(0, .sl 2 (mvs xs)), (1, fn)], [], 0⟩
  simp only at hp hask
  refine awp_seq ?_
  refine r1 T0_ok hP hm hN ?_
  refine g1 ?_
  refine awp_seq ?_
  refine awp_seq ?_
  refine r1 T0_ok hP hm hN ?_
  refine g1 ?_
  refine g1 ?_
  refine g1 ?_
  refine awp_block ?_
  refine awp_loop (fun n st => ∃ i : Nat, i ≤ xs.length ∧ (∀ j, j < i → p (xs.getD j mv0) = false) ∧ n = xs.length - i ∧ st = ⟨[(8, .val (.int .i64 (i : Nat))), (7, .val (.int .i64 (xs.length : Nat))), (0, .sl 2 (mvs xs)), (1, fn)], [], 0⟩) (xs.length) ⟨_, weak_sl (sub_cons rfl (sub_cons rfl (sub_cons rfl (sub_cons rfl (sub_nil))))), 0, by omega, fun j h1 => by omega, rfl, rfl⟩ ?_
  rintro n st ⟨i, hii, hall, hni, rfl⟩
  refine awp_seq ?_
  refine r1 T0_ok hP hm hN ?_
  refine g1 ?_
  refine awp_seq ?_
  refine awp_cond rfl (fun hc0 => ?_) (fun hc0 => ?_)
  · skip
    have hlti : i < xs.length := by simpa using hc0
    have hgx := mvs_get xs i hlti
    refine awp_skip ?_
    refine awp_seq ?_
    refine awp_block ?_
    refine awp_seq ?_
    refine r1 T0_ok hP hm hN ?_
    refine g1 ?_
    refine g1 ?_
    refine awp_seq ?_
    refine r1 T0_ok hP hm hN ?_
    refine g1 ?_
    refine g1 ?_
    refine g1 ?_
    refine g1 ?_
    refine g1 ?_
    refine gc1 ?_ (OpRel.does hask _ (by first | exact getD_mem' hlti | exact hn) rfl rfl rfl rfl rfl rfl)
    refine awp_cond rfl (fun hc1 => ?_) (fun hc1 => ?_)
    · skip
      refine awp_seq ?_
      refine r1 T0_ok hP hm hN ?_
      refine g1 ?_
      refine g1 ?_
      refine awp_ret ?_
      refine fin_mk [] rfl rfl ?_ trivial (by decide)
      show D.val (.int .i64 (idxOf p xs)) = _
      rw [idxOf_some (d := mv0) hlti hc1 (fun j hj => hall j hj)]
      rfl
    · skip
      refine awp_skip ?_
      refine r1 T0_ok hP hm hN ?_
      refine g1 ?_
      refine g1 ?_
      refine ⟨xs.length - (i + 1), _, by omega, weak_sl (sub_cons rfl (sub_cons rfl (sub_cons rfl (sub_cons rfl (sub_nil))))), i + 1, by omega, upto_step hall hc1, rfl, rfl⟩
  · skip
    have hgei : ¬ i < xs.length := by simpa using hc0
    have heqi : i = xs.length := by omega
    refine awp_exit ?_
    repeat refine thenA_exit ?_
    refine blockA_hit ?_
    refine awp_seq ?_
    refine r1 T0_ok hP hm hN ?_
    refine g1 ?_
    refine awp_ret ?_
    refine fin_mk [] rfl rfl ?_ trivial (by decide)
    show D.val (.int .i64 (idxOf p xs)) = _
    rw [idxOf_none (d := mv0) (fun j hj => hall j (by omega))]
    rfl

noncomputable abbrev s_slices_ContainsFunc_I_Move_I_Move : Spec (List Mv × D × (Mv → Bool)) where
  args := fun x => [.sl 2 (mvs x.1), x.2.1]
  pre := fun x => x.1.length ≤ 9223372036854775807 ∧ Says mvD (· ∈ x.1) x.2.2 x.2.1
  res := fun x => .val (.bool (x.1.any x.2.2))

set_option maxRecDepth 20000 in
set_option maxHeartbeats 1000000 in
theorem ok_slices_ContainsFunc_I_Move_I_Move : FnOk Pr 49 s_slices_ContainsFunc_I_Move_I_Move := by
  refine fn_ok 2 0 T0_ok Go.Proofs.Try.func49 rfl (enters_of Go.Proofs.Try.func49 rfl rfl) (fun _ => rfl) (fun _ => rfl) (fun _ => rfl) ?_
  rintro ⟨xs, fn, p⟩ hp C hP hN hm hG
  change awp C _ _ ⟨[(0, .sl 2 (mvs xs)), (1, fn)], [], 0⟩
  refine awp_seq ?_
  refine r1 T0_ok hP hm hN ?_
  refine g1 ?_
  refine awp_seq ?_
  refine r1 T0_ok hP hm hN ?_
  refine g1 ?_
  refine g1 ?_
  refine gc1 ?_ (call1 ok_slices_IndexFunc_I_Move_I_Move (_, _, p) [] (hargs := (by exact args_cons arga_slsl (args_cons (arga_does (by exact hp.2)) args_nil))) (hpre := by (try dsimp only); exact hp))
  refine g1 ?_
  refine g1 ?_
  refine awp_ret ?_
  refine fin_mk [] rfl rfl ?_ trivial (by decide)
  show D.val (.bool (xs.any p)) = _
  rw [← idxOf_any]
  rfl

noncomputable abbrev s_I_areAll_I_Move_1 (fn : D) (dom : Mv → Prop) (p : Mv → Bool) : Spec Mv where
  args := fun n => [mvD n, .rptr 1 [[fn]] 0 0]
  pre := fun n => dom n
  res := fun n => .val (.bool (!p n))

set_option maxRecDepth 20000 in
set_option maxHeartbeats 1000000 in
theorem ok_I_areAll_I_Move_1 (fn : D) (dom : Mv → Prop) (p : Mv → Bool) (hask : Says mvD dom p fn) : FnOk Pr 50 (s_I_areAll_I_Move_1 fn dom p) := by
  refine fn_ok 2 0 T0_ok Go.Proofs.Try.func50 rfl (enters_of Go.Proofs.Try.func50 rfl rfl) (fun _ => rfl) (fun _ => rfl) (fun _ => rfl) ?_
  rintro n hn C hP hN hm hG
  change awp C _ _ ⟨[(0, mvD n), (1, .rptr 1 [[fn]] 0 0)], [], 0⟩
  refine awp_seq ?_
  refine r1 T0_ok hP hm hN ?_
  refine g1 ?_
  refine g1 ?_
  refine awp_seq ?_
  refine r1 T0_ok hP hm hN ?_
  refine g1 ?_
  refine g1 ?_
  refine gc1 ?_ (OpRel.does hask _ (by first | exact getD_mem' hlti | exact hn) rfl rfl rfl rfl rfl rfl)
  refine g1 ?_
  refine g1 ?_
  refine awp_ret ?_
  refine fin_mk [] rfl rfl ?_ trivial (by decide)
  rfl

theorem says_not_move {fn : D} {dom : Mv → Prop} {p : Mv → Bool} (h : Says mvD dom p fn) : Says mvD dom (fun n => !p n) (.clo (.func 50) [.rptr 1 [[fn]] 0 0]) :=
  ⟨50, [], [.rptr 1 [[fn]] 0 0], s_I_areAll_I_Move_1 fn dom p, rfl, rfl, rfl, ok_I_areAll_I_Move_1 fn dom p h, fun _ => rfl, fun _ h => h, fun _ => rfl, fun _ => rfl, fun _ => rfl, fun _ => rfl⟩

noncomputable abbrev s_I_areAll_I_Move : Spec (List Mv × D × (Mv → Bool)) where
  args := fun x => [.sl 2 (mvs x.1), x.2.1]
  pre := fun x => x.1.length ≤ 9223372036854775807 ∧ fnCell x.2.1 = true ∧ Says mvD (· ∈ x.1) x.2.2 x.2.1
  res := fun x => .val (.bool (x.1.all x.2.2))

set_option maxRecDepth 20000 in
set_option maxHeartbeats 1000000 in
theorem ok_I_areAll_I_Move : FnOk Pr 31 s_I_areAll_I_Move := by
  refine fn_ok 2 0 T0_ok Go.Proofs.Try.func31 rfl (enters_of Go.Proofs.Try.func31 rfl rfl) (fun _ => rfl) (fun _ => rfl) (fun _ => rfl) ?_
  rintro ⟨xs, fn, p⟩ ⟨hp, hf0, hask⟩ C hP hN hm hG
  change awp C _ _ ⟨[(0, .sl 2 (mvs xs)), (1, fn)], [], 0⟩
  simp only at hp hf0 hask
  obtain ⟨hdc, hcl, hhf, hsf⟩ := fnCell_ok hf0
  refine awp_seq ?_
  refine r1 T0_ok hP hm hN ?_
  refine g1 ?_ (hpre := by exact hcl) (hst := by simp +decide (disch := omega) only [nrm, lk_nrm, dc_nrm, mk_nrm, mf_nrm, ti_nrm, ls_nrm, mp_nrm, nb_nrm, hset, pick_and, pick_or, ↓reduceIte, Nat.reduceAdd, wI64, wI32, wI16, wI8, wU8, List.length_map, Int.toNat_natCast, hdc]; rfl)
  refine g1 ?_ (hst := by simp +decide (disch := omega) only [nrm, lk_nrm, dc_nrm, mk_nrm, mf_nrm, ti_nrm, ls_nrm, mp_nrm, nb_nrm, hset, pick_and, pick_or, ↓reduceIte, Nat.reduceAdd, wI64, wI32, wI16, wI8, wU8, List.length_map, Int.toNat_natCast, hdc]; rfl)
  refine awp_seq ?_
  refine r1 T0_ok hP hm hN ?_
  refine g1 ?_ (hst := by simp +decide (disch := omega) only [nrm, lk_nrm, dc_nrm, mk_nrm, mf_nrm, ti_nrm, ls_nrm, mp_nrm, nb_nrm, hset, pick_and, pick_or, ↓reduceIte, Nat.reduceAdd, wI64, wI32, wI16, wI8, wU8, List.length_map, Int.toNat_natCast, hdc]; rfl)
  refine g1 ?_ (hst := by simp +decide (disch := omega) only [nrm, lk_nrm, dc_nrm, mk_nrm, mf_nrm, ti_nrm, ls_nrm, mp_nrm, nb_nrm, hset, pick_and, pick_or, ↓reduceIte, Nat.reduceAdd, wI64, wI32, wI16, wI8, wU8, List.length_map, Int.toNat_natCast, hdc]; rfl)
  refine gc1 ?_ (call1 ok_slices_ContainsFunc_I_Move_I_Move (_, _, fun n => !p n) [] (hpre := by (try dsimp only); exact ⟨hp, says_not_move hask⟩)) (hst := by simp +decide (disch := omega) only [nrm, lk_nrm, dc_nrm, mk_nrm, mf_nrm, ti_nrm, ls_nrm, mp_nrm, nb_nrm, hset, pick_and, pick_or, ↓reduceIte, Nat.reduceAdd, wI64, wI32, wI16, wI8, wU8, List.length_map, Int.toNat_natCast, hdc]; rfl)
  refine g1 ?_ (hst := by simp +decide (disch := omega) only [nrm, lk_nrm, dc_nrm, mk_nrm, mf_nrm, ti_nrm, ls_nrm, mp_nrm, nb_nrm, hset, pick_and, pick_or, ↓reduceIte, Nat.reduceAdd, wI64, wI32, wI16, wI8, wU8, List.length_map, Int.toNat_natCast, hdc]; rfl)
  refine g1 ?_ (hst := by simp +decide (disch := omega) only [nrm, lk_nrm, dc_nrm, mk_nrm, mf_nrm, ti_nrm, ls_nrm, mp_nrm, nb_nrm, hset, pick_and, pick_or, ↓reduceIte, Nat.reduceAdd, wI64, wI32, wI16, wI8, wU8, List.length_map, Int.toNat_natCast, hdc]; rfl)
  refine awp_ret ?_
  refine fin_mk [] rfl rfl ?_ trivial (by decide)
  show D.val (.bool (xs.all p)) = _
  rw [← any_not]
  rfl

noncomputable abbrev s_I_SwapAll_1 : Spec (Mv × Int) where
  args := fun x => [mvD x.1, .rptr 1 [[.val (.int .i16 x.2)]] 0 0]
  res := fun x => .val (.bool (mvIn x.2 x.1))

set_option maxRecDepth 20000 in
set_option maxHeartbeats 1000000 in
theorem ok_I_SwapAll_1 : FnOk Pr 32 s_I_SwapAll_1 := by
  refine fn_ok 2 0 T0_ok Go.Proofs.Try.func32 rfl (enters_of Go.Proofs.Try.func32 rfl rfl) (fun _ => rfl) (fun _ => rfl) (fun _ => rfl) ?_
  rintro ⟨⟨a, b⟩, l⟩ - C hP hN hm hG
  change awp C _ _ ⟨[(0, mvD (a, b)), (1, .rptr 1 [[.val (.int .i16 l)]] 0 0)], [], 0⟩
  refine awp_seq ?_
  refine r1 T0_ok hP hm hN ?_
  refine g1 ?_
  refine g1 ?_
  refine awp_seq ?_
  refine r1 T0_ok hP hm hN ?_
  refine g1 ?_
  refine g1 ?_
  refine g1 ?_
  refine gc1 ?_ (call1 ok_I_within_int16 (_, _, _) [])
  refine g1 ?_
  refine gg1 ?_
  refine gg1 ?_
  refine gg1 ?_
  refine ggc1 ?_ (hs := by intro hb; simp +decide only [hb, gd_tt, gd_ff, beq_self_eq_true, Bool.true_and, beq_true]; exact ⟨rfl, _, call1 ok_I_within_int16 (_, _, _) [], rfl, rfl, rfl⟩)
  refine g1 ?_
  refine g1 ?_
  refine awp_ret ?_
  refine fin_mk [] rfl rfl ?_ trivial (by decide)
  rfl

theorem says_in (dom : Mv → Prop) (l : Int) : Says mvD dom (mvIn l) (.clo (.func 32) [.rptr 1 [[.val (.int .i16 l)]] 0 0]) :=
  ⟨32, [], [.rptr 1 [[.val (.int .i16 l)]] 0 0], (s_I_SwapAll_1).comap (fun n => (n, l)), rfl, rfl, rfl, ok_I_SwapAll_1.comap _, fun _ => rfl, fun _ _ => trivial, fun _ => rfl, fun _ => rfl, fun _ => rfl, fun _ => rfl⟩

noncomputable abbrev s_slices_Clone_I_Book_I_Book : Spec (List Bk) where
  args := fun xs => [.sl 8 (bks xs)]
  pre := fun xs => xs.length ≤ 1048576
  new := fun xs => [⟨39, 8, false, bks xs⟩]
  res := fun xs => .own 0

set_option maxRecDepth 20000 in
set_option maxHeartbeats 1000000 in
theorem ok_slices_Clone_I_Book_I_Book : FnOk Pr 34 s_slices_Clone_I_Book_I_Book := by
  refine fn_ok 1 0 T0_ok Go.Proofs.Try.func34 rfl (enters_of Go.Proofs.Try.func34 rfl rfl) (fun _ => rfl) (fun _ => rfl) (fun _ => rfl) ?_
  rintro xs hl C hP hN hm hG
  change awp C _ _ ⟨[(0, .sl 8 (bks xs))], [], 0⟩
  have hl : xs.length ≤ 1048576 := hl
  refine awp_seq ?_
  refine r1 T0_ok hP hm hN ?_
  refine g1 ?_
  refine awp_seq ?_
  refine awp_seq ?_
  refine awp_sreg rfl ?_
  refine sg1 T0_ok hP hm hN ?_
  refine sreg_nilcmp T0_ok hP hN (by decide) rfl rfl (fun bz hbz => ?_)
  refine sreg_rest T0_ok hP hm hN ?_
  refine awp_cond rfl (fun hc0 => ?_) (fun hc0 => ?_)
  · skip
    have hxs : xs = [] := by have h := hbz hc0; simpa using h
    subst hxs
    refine awp_seq ?_
    refine r1 T0_ok hP hm hN ?_
    refine g1 ?_
    refine awp_weak (weak_nil 2 39 8 rfl) ?_
    refine awp_ret ?_
    refine fin_mk [0] rfl rfl ?_ (objs_cons rfl rfl rfl rfl rfl (.inl rfl) objs_nil) (by decide)
    rfl
  · skip
    refine awp_skip ?_
    refine awp_seq ?_
    refine r1 T0_ok hP hm hN ?_
    refine g1 ?_
    refine g1 ?_
    refine ga1 ?_
    refine g1 ?_
    refine awp_ret ?_
    refine fin_mk [0] rfl rfl ?_ (objs_cons rfl rfl rfl rfl rfl (.inl rfl) objs_nil) (by decide)
    rfl

noncomputable abbrev s_I_SwapAll : Spec (List Bk × List Mv) where
  args := fun x => [.sl 8 (bks x.1), .sl 2 (mvs x.2)]
  pre := fun x => (∀ b ∈ x.1, isBk b) ∧ validBs x.1 = true ∧ x.1.length ≤ 60 ∧ x.2.length ≤ 200 ∧ x.2.all (mvIn ((x.1.length : Int) - 1)) = true
  new := fun x => [⟨39, 8, false, bks (swI x.1 x.2 x.2.length)⟩]
  res := fun x => .tup [.own 0, .val (.int .i64 0)]

set_option maxRecDepth 20000 in
set_option maxHeartbeats 4000000 in
theorem ok_I_SwapAll : FnOk Pr 15 s_I_SwapAll := by
  refine fn_ok 2 0 T0_ok Go.Proofs.Try.func15 rfl (enters_of Go.Proofs.Try.func15 rfl rfl) (fun _ => rfl) (fun _ => rfl) (fun _ => rfl) ?_
  rintro ⟨xs, ms⟩ ⟨hv, hval, hl, hml, hin⟩ C hP hN hm hG
  change awp C _ _ ⟨[(0, .sl 8 (bks xs)), (1, .sl 2 (mvs ms))], [], 0⟩
  simp only at hv hval hl hml hin
  refine awp_seq ?_
  refine r1 T0_ok hP hm hN ?_
  refine g1 ?_
  refine g1 ?_
  refine awp_seq ?_
  refine awp_block ?_
  refine awp_seq ?_
  refine r1 T0_ok hP hm hN ?_
  refine g1 ?_
  refine gc1 ?_ (call1 ok_I_ValidBooks _ [] (hpre := by (try dsimp only); omega))
  refine g1 ?_
  refine g1 ?_
  refine awp_cond rfl (fun hc0 => ?_) (fun hc0 => ?_)
  · skip
    exact absurd hc0 (by rw [hval]; decide)
  · skip
    refine awp_seq ?_
    refine r1 T0_ok hP hm hN ?_
    refine g1 ?_
    refine g1 ?_
    refine g1 ?_
    refine g1 ?_
    refine awp_cond rfl (fun hc1 => ?_) (fun hc1 => ?_)
    · skip
      exfalso; simp at hc1; omega
    · skip
      refine awp_skip ?_
      refine awp_seq ?_
      refine r1 T0_ok hP hm hN ?_
      refine g1 ?_
      refine g1 ?_
      refine g1 ?_
      refine g1 ?_
      refine g1 ?_
      refine g1 ?_
      refine awp_seq ?_
      refine awp_seq ?_
      refine r1 T0_ok hP hm hN ?_
      refine g1 ?_
      refine g1 ?_
      refine gc1 ?_ (call1 ok_I_areAll_I_Move (ms, _, mvIn ((xs.length : Int) - 1)) [] (hpre := by (try dsimp only); exact ⟨by omega, rfl, says_in _ _⟩))
      refine g1 ?_
      refine awp_cond rfl (fun hc2 => ?_) (fun hc2 => ?_)
      · skip
        exact absurd hc2 (by rw [hin]; decide)
      · skip
        refine awp_skip ?_
        refine awp_seq ?_
        refine r1 T0_ok hP hm hN ?_
        refine g1 ?_
        refine gc1 ?_ (call1 ok_slices_Clone_I_Book_I_Book _ [] (hpre := by (try dsimp only); omega) (hfo := by exact fm_cons (flat_bks _ _ _ _) fm_nil))
        refine g1 ?_
        refine awp_seq ?_
        refine awp_seq ?_
        refine r1 T0_ok hP hm hN ?_
        refine g1 ?_
        refine g1 ?_
        refine g1 ?_
        refine awp_block ?_
        refine awp_loop (fun n st => ∃ i : Nat, i ≤ ms.length ∧ n = ms.length - i ∧ st = ⟨[(30, .val (.int .i64 ((i : Nat) : Int))), (29, .val (.int .i64 ((ms.length : Nat) : Int))), (28, .sl 2 (mvs ms)), (7, .own 1)], [(1, ⟨39, 8, false, bks (swI xs ms i)⟩), (0, ⟨36, 1, true, [[.val (.int .i16 ((xs.length : Int) - 1))]]⟩)], 2⟩) (ms.length) ⟨_, weak_sl (sub_cons rfl (sub_cons rfl (sub_cons rfl (sub_cons rfl (sub_nil))))), 0, by omega, rfl, rfl⟩ ?_
        rintro n st ⟨i, hii, hni, rfl⟩
        have hsl := swI_len xs ms i
        refine awp_seq ?_
        refine r1 T0_ok hP hm hN ?_
        refine g1 ?_
        refine awp_seq ?_
        refine awp_cond rfl (fun hc3 => ?_) (fun hc3 => ?_)
        · skip
          have hlti : i < ms.length := by simpa using hc3
          have hgx := mvs_get ms i hlti
          have hmm := List.all_eq_true.1 hin _ (getD_mem' (d := mv0) hlti)
          simp only [mvIn, Bool.and_eq_true, inI_iff] at hmm
          have hgz : ((bks (swI xs ms i)).set (ms.getD i mv0).1.toNat (bkRow ((swI xs ms i).getD (ms.getD i mv0).2.toNat bk0)))[(ms.getD i mv0).2.toNat]? = some (bkRow (((swI xs ms i).set (ms.getD i mv0).1.toNat ((swI xs ms i).getD (ms.getD i mv0).2.toNat bk0)).getD (ms.getD i mv0).2.toNat bk0)) := by rw [← bks_set]; exact bks_get _ _ (by rw [List.length_set]; omega)
          refine awp_skip ?_
          refine awp_seq ?_
          refine awp_block ?_
          refine awp_seq ?_
          refine r1 T0_ok hP hm hN ?_
          refine g1 ?_
          refine g1 ?_
          refine g1 ?_
          refine g1 ?_
          refine awp_draw T0_ok hP hm hN Pr_mix [2] [17, 18, 19] _ rfl (by rfl) ?_
          refine d1 T0_ok ?_
          refine d1 T0_ok ?_
          refine d1 T0_ok ?_
          refine d1 T0_ok ?_
          refine d1 T0_ok ?_
          refine d1 T0_ok ?_
          refine d1 T0_ok ?_
          refine d1 T0_ok ?_
          refine d1 T0_ok ?_
          refine dx1 T0_ok ?_
          refine dx1 T0_ok ?_
          refine d1 T0_ok ?_
          refine d1 T0_ok ?_
          refine d1 T0_ok ?_
          refine dx1 T0_ok ?_
          refine dx1 T0_ok ?_
          refine dx1 T0_ok ?_
          refine dp1 ?_ (oprel_astep T0_ok (by first | rfl | exact astep_load_p (by rfl) (by rfl) (by rfl) (by exact bks_get _ _ (by omega)) (by rfl) | exact astep_store_p (by rfl) (by rfl) (by rfl) (by rfl) (by first | exact bks_get _ _ (by omega) | exact hgz)) rfl (by first | trivial | rfl | exact ⟨rfl, rfl⟩ | exact ⟨rfl, rfl, fun _ => rfl, Nat.le_of_ble_eq_true rfl, .inl rfl⟩ | exact ⟨rfl, rfl, fun h => (nomatch h), Nat.le_of_ble_eq_true rfl, .inl rfl⟩ | exact ⟨rfl, rfl, fun _ => rfl, Nat.le_of_ble_eq_true rfl, .inr rfl⟩ | exact ⟨rfl, rfl, fun h => (nomatch h), Nat.le_of_ble_eq_true rfl, .inr rfl⟩ | omega | exact ⟨rfl, by (repeat (first | exact fm_nil | refine fm_cons ⟨rfl, rfl⟩ ?_)), Nat.le_of_ble_eq_true rfl, Nat.le_of_ble_eq_true rfl⟩ | (refine ⟨?_, ?_, ?_, ?_, ?_, ?_, ?_⟩ <;> first | omega | exact Nat.le_of_ble_eq_true rfl) | exact ⟨rfl, by omega, by (try simp only [List.length_map, List.length_set]); omega⟩ | exact ⟨rfl, by omega, by simp only [Int.toNat_natCast]; omega, by omega, Nat.le_of_ble_eq_true rfl, rfl⟩))
          refine dp1 ?_ (oprel_astep T0_ok (by first | rfl | exact astep_load_p (by rfl) (by rfl) (by rfl) (by exact bks_get _ _ (by omega)) (by rfl) | exact astep_store_p (by rfl) (by rfl) (by rfl) (by rfl) (by first | exact bks_get _ _ (by omega) | exact hgz)) rfl (by first | trivial | rfl | exact ⟨rfl, rfl⟩ | exact ⟨rfl, rfl, fun _ => rfl, Nat.le_of_ble_eq_true rfl, .inl rfl⟩ | exact ⟨rfl, rfl, fun h => (nomatch h), Nat.le_of_ble_eq_true rfl, .inl rfl⟩ | exact ⟨rfl, rfl, fun _ => rfl, Nat.le_of_ble_eq_true rfl, .inr rfl⟩ | exact ⟨rfl, rfl, fun h => (nomatch h), Nat.le_of_ble_eq_true rfl, .inr rfl⟩ | omega | exact ⟨rfl, by (repeat (first | exact fm_nil | refine fm_cons ⟨rfl, rfl⟩ ?_)), Nat.le_of_ble_eq_true rfl, Nat.le_of_ble_eq_true rfl⟩ | (refine ⟨?_, ?_, ?_, ?_, ?_, ?_, ?_⟩ <;> first | omega | exact Nat.le_of_ble_eq_true rfl) | exact ⟨rfl, by omega, by (try simp only [List.length_map, List.length_set]); omega⟩ | exact ⟨rfl, by omega, by simp only [Int.toNat_natCast]; omega, by omega, Nat.le_of_ble_eq_true rfl, rfl⟩))
          refine dp1 ?_ (oprel_astep T0_ok (by first | rfl | exact astep_load_p (by rfl) (by rfl) (by rfl) (by exact bks_get _ _ (by omega)) (by rfl) | exact astep_store_p (by rfl) (by rfl) (by rfl) (by rfl) (by first | exact bks_get _ _ (by omega) | exact hgz)) rfl (by first | trivial | rfl | exact ⟨rfl, rfl⟩ | exact ⟨rfl, rfl, fun _ => rfl, Nat.le_of_ble_eq_true rfl, .inl rfl⟩ | exact ⟨rfl, rfl, fun h => (nomatch h), Nat.le_of_ble_eq_true rfl, .inl rfl⟩ | exact ⟨rfl, rfl, fun _ => rfl, Nat.le_of_ble_eq_true rfl, .inr rfl⟩ | exact ⟨rfl, rfl, fun h => (nomatch h), Nat.le_of_ble_eq_true rfl, .inr rfl⟩ | omega | exact ⟨rfl, by (repeat (first | exact fm_nil | refine fm_cons ⟨rfl, rfl⟩ ?_)), Nat.le_of_ble_eq_true rfl, Nat.le_of_ble_eq_true rfl⟩ | (refine ⟨?_, ?_, ?_, ?_, ?_, ?_, ?_⟩ <;> first | omega | exact Nat.le_of_ble_eq_true rfl) | exact ⟨rfl, by omega, by (try simp only [List.length_map, List.length_set]); omega⟩ | exact ⟨rfl, by omega, by simp only [Int.toNat_natCast]; omega, by omega, Nat.le_of_ble_eq_true rfl, rfl⟩))
          refine dreg_nil ?_
          refine r1 T0_ok hP hm hN ?_
          refine g1 ?_
          refine g1 ?_
          refine ⟨ms.length - (i + 1), _, by omega, (by rw [show bks (swI xs ms (i + 1)) = ((bks (swI xs ms i)).set (ms.getD i mv0).1.toNat (bkRow ((swI xs ms i).getD (ms.getD i mv0).2.toNat bk0))).set (ms.getD i mv0).2.toNat (bkRow ((swI xs ms i).getD (ms.getD i mv0).1.toNat bk0)) by rw [swI, swpB, bks_set, bks_set]]; exact Weak.trans (weak_drop 2) (Weak.trans (weak_nx (nx' := 2) (by omega) (by rfl)) (weak_sl (sub_cons rfl (sub_cons rfl (sub_cons rfl (sub_cons rfl (sub_nil)))))))), i + 1, by omega, rfl, rfl⟩
        · skip
          have hgei : ¬ i < ms.length := by simpa using hc3
          have heqi : i = ms.length := by omega
          subst heqi
          refine awp_exit ?_
          repeat refine thenA_exit ?_
          refine blockA_hit ?_
          refine awp_seq ?_
          refine r1 T0_ok hP hm hN ?_
          refine g1 ?_
          refine g1 ?_
          refine g1 ?_
          refine awp_ret ?_
          refine fin_mk [1] rfl rfl ?_ (objs_cons rfl rfl rfl rfl rfl (.inl rfl) objs_nil) (by decide)
          rfl

noncomputable abbrev s_I_PairsOut : Spec (List Bk) where
  args := fun xs => [.sl 8 (bks xs)]
  pre := fun xs => validBs xs = true ∧ xs.length ≤ 60
  res := fun xs => .tup [.val (.int .i64 (prO xs xs.length)), .val (.int .i64 0)]

set_option maxRecDepth 20000 in
set_option maxHeartbeats 4000000 in
theorem ok_I_PairsOut : FnOk Pr 16 s_I_PairsOut := by
  refine fn_ok 1 0 T0_ok Go.Proofs.Try.func16 rfl (enters_of Go.Proofs.Try.func16 rfl rfl) (fun _ => rfl) (fun _ => rfl) (fun _ => rfl) ?_
  rintro xs ⟨hval, hl⟩ C hP hN hm hG
  change awp C _ _ ⟨[(0, .sl 8 (bks xs))], [], 0⟩
  have hval : validBs xs = true := hval
  have hl : xs.length ≤ 60 := hl
  refine awp_seq ?_
  refine r1 T0_ok hP hm hN ?_
  refine g1 ?_
  refine g1 ?_
  refine awp_seq ?_
  refine awp_seq ?_
  refine r1 T0_ok hP hm hN ?_
  refine g1 ?_
  refine gc1 ?_ (call1 ok_I_ValidBooks _ [] (hpre := by (try dsimp only); omega))
  refine g1 ?_
  refine awp_cond rfl (fun hc0 => ?_) (fun hc0 => ?_)
  · skip
    exact absurd hc0 (by rw [hval]; decide)
  · skip
    refine awp_skip ?_
    refine awp_seq ?_
    refine r1 T0_ok hP hm hN ?_
    refine g1 ?_
    refine awp_seq ?_
    refine awp_seq ?_
    refine r1 T0_ok hP hm hN ?_
    refine g1 ?_
    refine g1 ?_
    refine g1 ?_
    refine awp_block ?_
    refine awp_loop (fun n st => ∃ i : Nat, i ≤ xs.length ∧ n = xs.length - i ∧ st = ⟨[(14, .val (.int .i64 ((i : Nat) : Int))), (13, .val (.int .i64 ((xs.length : Nat) : Int))), (12, .sl 8 (bks xs)), (4, .val (.int .i64 (prO xs i))), (0, .sl 8 (bks xs))], [], 0⟩) (xs.length) ⟨_, weak_sl (sub_cons rfl (sub_cons rfl (sub_cons rfl (sub_cons rfl (sub_cons rfl (sub_nil)))))), 0, by omega, rfl, rfl⟩ ?_
    rintro n st ⟨i, hii, hni, rfl⟩
    have hpb := prO_b xs i (by omega)
    refine awp_seq ?_
    refine r1 T0_ok hP hm hN ?_
    refine g1 ?_
    refine awp_seq ?_
    refine awp_cond rfl (fun hc1 => ?_) (fun hc1 => ?_)
    · skip
      have hlti : i < xs.length := by simpa using hc1
      have htk : (xs.take i).length = i := by simp; omega
      refine awp_skip ?_
      refine awp_seq ?_
      refine awp_block ?_
      refine awp_seq ?_
      refine r1 T0_ok hP hm hN ?_
      refine g1 ?_
      refine g1 ?_
      refine g1 ?_
      refine g1 ?_
      refine g1 ?_
      refine g1 ?_
      refine awp_seq ?_
      refine r1 T0_ok hP hm hN ?_
      refine g1 ?_
      refine g1 ?_
      refine g1 ?_ (hpre := by exact ⟨rfl, by omega, by omega, by simp only [List.length_map]; omega⟩) (hst := by simp +decide (disch := omega) only [nrm, lk_nrm, dc_nrm, mk_nrm, mf_nrm, ti_nrm, ls_nrm, mp_nrm, nb_nrm, hset, pick_and, pick_or, ↓reduceIte, Nat.reduceAdd, wI64, wI32, wI16, wI8, wU8, List.length_map, Int.toNat_natCast, List.drop_zero, Nat.sub_zero, Int.toNat_zero, ← List.map_take]; rfl)
      refine g1 ?_ (hst := by simp +decide (disch := omega) only [nrm, lk_nrm, dc_nrm, mk_nrm, mf_nrm, ti_nrm, ls_nrm, mp_nrm, nb_nrm, hset, pick_and, pick_or, ↓reduceIte, Nat.reduceAdd, wI64, wI32, wI16, wI8, wU8, List.length_map, Int.toNat_natCast, htk]; rfl)
      refine g1 ?_
      refine awp_block ?_
      refine awp_loop (fun n st => ∃ k : Nat, k ≤ i ∧ n = i - k ∧ st = ⟨[(23, .val (.int .i64 ((k : Nat) : Int))), (22, .val (.int .i64 ((i : Nat) : Int))), (21, .sl 8 (bks (xs.take i))), (4, .val (.int .i64 (prO xs i + cntF (prB xs i) k))), (14, .val (.int .i64 ((i : Nat) : Int))), (13, .val (.int .i64 ((xs.length : Nat) : Int))), (12, .sl 8 (bks xs)), (6, .ptr 0 0 0), (0, .sl 8 (bks xs))], [(0, ⟨39, 8, true, [bkRow (xs.getD i bk0)]⟩)], 1⟩) (i) ⟨_, (by rw [show prO xs i + cntF (prB xs i) 0 = prO xs i from Int.add_zero _]; exact weak_sl (sub_cons rfl (sub_cons rfl (sub_cons rfl (sub_cons rfl (sub_cons rfl (sub_cons rfl (sub_cons rfl (sub_cons rfl (sub_cons rfl (sub_nil))))))))))), 0, by omega, rfl, rfl⟩ ?_
      rintro n st ⟨k, hik, hnk, rfl⟩
      have hcb := cntF_b (prB xs i) k
      refine awp_seq ?_
      refine r1 T0_ok hP hm hN ?_
      refine g1 ?_
      refine awp_seq ?_
      refine awp_cond rfl (fun hc2 => ?_) (fun hc2 => ?_)
      · skip
        have hltk : k < i := by simpa using hc2
        have hgk : (xs.take i).getD k bk0 = xs.getD k bk0 := take_getD' hltk
        refine awp_skip ?_
        refine awp_seq ?_
        refine awp_block ?_
        refine awp_seq ?_
        refine r1 T0_ok hP hm hN ?_
        refine g1 ?_
        refine g1 ?_ (hst := by simp +decide (disch := omega) only [nrm, lk_nrm, dc_nrm, mk_nrm, mf_nrm, ti_nrm, ls_nrm, mp_nrm, nb_nrm, hset, pick_and, pick_or, ↓reduceIte, Nat.reduceAdd, wI64, wI32, wI16, wI8, wU8, List.length_map, Int.toNat_natCast, hgk]; rfl)
        refine g1 ?_
        refine g1 ?_
        refine awp_seq ?_
        refine r1 T0_ok hP hm hN ?_
        refine g1 ?_
        refine g1 ?_
        refine gc1 ?_ (call1 ok_I_compare (_, _) [])
        refine g1 ?_
        refine awp_cond rfl (fun hc3 => ?_) (fun hc3 => ?_)
        · skip
          have hle : (if prB xs i k = true then cntF (prB xs i) k + 1 else cntF (prB xs i) k) = cntF (prB xs i) k + 1 := if_pos hc3
          refine r1 T0_ok hP hm hN ?_
          refine g1 ?_
          refine g1 ?_ (hst := by simp +decide (disch := omega) only [nrm, lk_nrm, dc_nrm, mk_nrm, mf_nrm, ti_nrm, ls_nrm, mp_nrm, nb_nrm, hset, pick_and, pick_or, ↓reduceIte, Nat.reduceAdd, wI64, wI32, wI16, wI8, wU8, List.length_map, Int.toNat_natCast, Int.add_assoc]; rfl)
          refine g1 ?_
          refine r1 T0_ok hP hm hN ?_
          refine g1 ?_
          refine g1 ?_
          refine ⟨i - (k + 1), _, by omega, (by rw [cntF, hle]; exact Weak.trans (weak_drop 1) (Weak.trans (weak_nx (nx' := 1) (by omega) (by rfl)) (weak_sl (sub_cons rfl (sub_cons rfl (sub_cons rfl (sub_cons rfl (sub_cons rfl (sub_cons rfl (sub_cons rfl (sub_cons rfl (sub_cons rfl (sub_nil))))))))))))), k + 1, by omega, rfl, rfl⟩
        · skip
          have hle : (if prB xs i k = true then cntF (prB xs i) k + 1 else cntF (prB xs i) k) = cntF (prB xs i) k := if_neg (by rw [show prB xs i k = false from hc3]; simp)
          refine awp_skip ?_
          refine r1 T0_ok hP hm hN ?_
          refine g1 ?_
          refine g1 ?_
          refine ⟨i - (k + 1), _, by omega, (by rw [cntF, hle]; exact Weak.trans (weak_drop 1) (Weak.trans (weak_nx (nx' := 1) (by omega) (by rfl)) (weak_sl (sub_cons rfl (sub_cons rfl (sub_cons rfl (sub_cons rfl (sub_cons rfl (sub_cons rfl (sub_cons rfl (sub_cons rfl (sub_cons rfl (sub_nil))))))))))))), k + 1, by omega, rfl, rfl⟩
      · skip
        have hgek : ¬ k < i := by simpa using hc2
        have heqk : i = k := by omega
        subst heqk
        refine awp_exit ?_
        repeat refine thenA_exit ?_
        refine blockA_hit ?_
        refine r1 T0_ok hP hm hN ?_
        refine g1 ?_
        refine g1 ?_
        refine ⟨xs.length - (i + 1), _, by omega, (by rw [prO]; exact Weak.trans (weak_drop 0) (Weak.trans (weak_nx (nx' := 0) (by omega) (by rfl)) (weak_sl (sub_cons rfl (sub_cons rfl (sub_cons rfl (sub_cons rfl (sub_cons rfl (sub_nil))))))))), i + 1, by omega, rfl, rfl⟩
    · skip
      have hgei : ¬ i < xs.length := by simpa using hc1
      have heqi : i = xs.length := by omega
      subst heqi
      refine awp_exit ?_
      repeat refine thenA_exit ?_
      refine blockA_hit ?_
      refine awp_seq ?_
      refine r1 T0_ok hP hm hN ?_
      refine g1 ?_
      refine g1 ?_
      refine g1 ?_
      refine awp_ret ?_
      refine fin_mk [] rfl rfl ?_ trivial (by decide)
      rfl
end Go.Proofs.Ythdgihkffcmkiaa.Abs

