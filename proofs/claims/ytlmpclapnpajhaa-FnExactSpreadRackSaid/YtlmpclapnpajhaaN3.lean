import Derived.Test.YtlmpclapnpajhaaN2
set_option linter.unusedVariables false
set_option linter.unusedSimpArgs false
namespace Go.Proofs.Ytlmpclapnpajhaa.Abs
open Go Go.RowKit
noncomputable abbrev s_S_l05Books : Spec (Int × List Pl) where
  args := fun x => [.rptr 2 [[.val (.int .i16 x.1), .sl 9 (pls x.2)]] 0 0]
  pre := fun x => x.2.length ≤ 1048576
  new := fun x => [⟨56, 8, false, bks (x.2.map Prod.snd)⟩]
  res := fun x => .own 0

set_option maxRecDepth 20000 in
set_option maxHeartbeats 1000000 in
theorem ok_S_l05Books : FnOk Pr 46 s_S_l05Books := by
  refine fn_ok 1 0 T0_ok Go.Proofs.Try.func46 rfl (enters_of Go.Proofs.Try.func46 rfl rfl) (fun _ => rfl) (fun _ => rfl) (fun _ => rfl) ?_
  rintro ⟨p, xs⟩ hl C hP hN hm hG
  change awp C _ _ ⟨[(0, .rptr 2 [[.val (.int .i16 p), .sl 9 (pls xs)]] 0 0)], [], 0⟩
  have hl : xs.length ≤ 1048576 := hl
  refine awp_seq ?_
  refine r1 T0_ok hP hm hN ?_
  refine g1 ?_
  refine awp_seq ?_
  refine r1 T0_ok hP hm hN ?_
  refine g1 ?_
  refine g1 ?_
  refine awp_seq ?_
  refine awp_seq ?_
  refine r1 T0_ok hP hm hN ?_
  refine g1 ?_
  refine awp_block ?_
  refine awp_loop (fun n st => ∃ i : Nat, i ≤ xs.length ∧ n = xs.length - i ∧ st = ⟨[(4, .val (.int .i64 (i : Nat))), (3, .own 0), (0, .rptr 2 [[.val (.int .i16 p), .sl 9 (pls xs)]] 0 0)], [(0, ⟨56, 8, false, bks (mapF Prod.snd xs i)⟩)], 1⟩) (xs.length) ⟨_, weak_sl (sub_cons rfl (sub_cons rfl (sub_cons rfl (sub_nil)))), 0, by omega, rfl, rfl⟩ ?_
  rintro n st ⟨i, hii, hni, rfl⟩
  refine awp_seq ?_
  refine awp_seq ?_
  refine r1 T0_ok hP hm hN ?_
  refine g1 ?_
  refine g1 ?_
  refine g1 ?_
  refine g1 ?_
  refine g1 ?_
  refine g1 ?_
  refine g1 ?_
  refine awp_cond rfl (fun hc0 => ?_) (fun hc0 => ?_)
  · skip
    have hlti : i < xs.length := by simpa using hc0
    have hml := mapF_len (Prod.snd : Pl → Bk) xs hii
    refine awp_skip ?_
    refine awp_seq ?_
    refine awp_block ?_
    refine r1 T0_ok hP hm hN ?_
    refine g1 ?_
    refine g1 ?_
    refine g1 ?_
    refine g1 ?_
    refine g1 ?_
    refine g1 ?_
    refine g1 ?_
    refine g1 ?_
    refine g1 ?_
    refine g1 ?_
    refine ga1 ?_
    refine g1 ?_
    refine r1 T0_ok hP hm hN ?_
    refine g1 ?_
    refine g1 ?_
    refine g1 ?_
    refine ⟨xs.length - (i + 1), _, by omega, (by rw [mapF_succ (d := pl0) Prod.snd hlti, bks_app]; exact Weak.trans (weak_drop 1) (Weak.trans (weak_nx (nx' := 1) (by omega) (by rfl)) (weak_sl (sub_cons rfl (sub_cons rfl (sub_cons rfl (sub_nil))))))), i + 1, by omega, rfl, rfl⟩
  · skip
    have hgei : ¬ i < xs.length := by simpa using hc0
    have heqi : i = xs.length := by omega
    rw [heqi, mapF_all]
    refine awp_exit ?_
    repeat refine thenA_exit ?_
    refine blockA_hit ?_
    refine awp_seq ?_
    refine r1 T0_ok hP hm hN ?_
    refine g1 ?_
    refine g1 ?_
    refine awp_ret ?_
    refine fin_mk [0] rfl rfl ?_ (objs_cons rfl rfl rfl rfl rfl (.inl rfl) objs_nil) (by decide)
    rfl

def elF (xs ys : List Pl) : Nat → Int
  | 0 => 0
  | i + 1 => if (xs.getD i pl0).1 = (ys.getD i pl0).1 then elF xs ys i else elF xs ys i + 1
theorem elF_b (xs ys : List Pl) : ∀ i, 0 ≤ elF xs ys i ∧ elF xs ys i ≤ i
  | 0 => by simp [elF]
  | i + 1 => by
    have := elF_b xs ys i
    rw [elF]
    split <;> omega
def spreadL (p : Int) (xs : List Pl) : List Pl := spF p xs.length (xs.map Prod.snd) xs.length
theorem spreadL_def (p : Int) (xs : List Pl) : spF p xs.length (xs.map Prod.snd) xs.length = spreadL p xs := rfl
theorem spreadL_len (p : Int) (xs : List Pl) : (spreadL p xs).length = xs.length := by rw [spreadL, spF_len]
def spreadR (ok : Bool) (p : Int) (xs : List Pl) : Int × List Pl × Int × Int := if !ok then (0, [], 0, 1) else (p, spreadL p xs, elF xs (spreadL p xs) xs.length, 0)
theorem spreadR_len (ok : Bool) (p : Int) (xs : List Pl) : (spreadR ok p xs).2.1.length ≤ xs.length := by
  unfold spreadR
  split
  · simp
  · simp [spreadL_len]

noncomputable abbrev s_S_l05Elsewhere : Spec ((Int × List Pl) × (Int × List Pl)) where
  args := fun x => [.rptr 2 [[.val (.int .i16 x.1.1), .sl 9 (pls x.1.2)]] 0 0, .rptr 2 [[.val (.int .i16 x.2.1), .sl 9 (pls x.2.2)]] 0 0]
  pre := fun x => x.1.2.length ≤ 1048576 ∧ x.1.2.length ≤ x.2.2.length
  res := fun x => .val (.int .i64 (elF x.1.2 x.2.2 x.1.2.length))

set_option maxRecDepth 20000 in
set_option maxHeartbeats 1000000 in
theorem ok_S_l05Elsewhere : FnOk Pr 47 s_S_l05Elsewhere := by
  refine fn_ok 2 0 T0_ok Go.Proofs.Try.func47 rfl (enters_of Go.Proofs.Try.func47 rfl rfl) (fun _ => rfl) (fun _ => rfl) (fun _ => rfl) ?_
  rintro ⟨⟨p, xs⟩, q, ys⟩ ⟨hl, hle2⟩ C hP hN hm hG
  change awp C _ _ ⟨[(0, .rptr 2 [[.val (.int .i16 p), .sl 9 (pls xs)]] 0 0), (1, .rptr 2 [[.val (.int .i16 q), .sl 9 (pls ys)]] 0 0)], [], 0⟩
  simp only at hl hle2
  refine awp_seq ?_
  refine r1 T0_ok hP hm hN ?_
  refine g1 ?_
  refine awp_seq ?_
  refine r1 T0_ok hP hm hN ?_
  refine g1 ?_
  refine awp_seq ?_
  refine awp_seq ?_
  refine r1 T0_ok hP hm hN ?_
  refine g1 ?_
  refine awp_block ?_
  refine awp_loop (fun n st => ∃ i : Nat, i ≤ xs.length ∧ n = xs.length - i ∧ st = ⟨[(6, .val (.int .i64 (i : Nat))), (5, .val (.int .i64 (elF xs ys i))), (0, .rptr 2 [[.val (.int .i16 p), .sl 9 (pls xs)]] 0 0), (1, .rptr 2 [[.val (.int .i16 q), .sl 9 (pls ys)]] 0 0)], [], 0⟩) (xs.length) ⟨_, weak_sl (sub_cons rfl (sub_cons rfl (sub_cons rfl (sub_cons rfl (sub_nil))))), 0, by omega, rfl, rfl⟩ ?_
  rintro n st ⟨i, hii, hni, rfl⟩
  refine awp_seq ?_
  refine awp_seq ?_
  refine r1 T0_ok hP hm hN ?_
  refine g1 ?_
  refine g1 ?_
  refine g1 ?_
  refine g1 ?_
  refine g1 ?_
  refine g1 ?_
  refine g1 ?_
  refine awp_cond rfl (fun hc0 => ?_) (fun hc0 => ?_)
  · skip
    have hlti : i < xs.length := by simpa using hc0
    have heb := elF_b xs ys i
    refine awp_skip ?_
    refine awp_seq ?_
    refine awp_block ?_
    refine awp_seq ?_
    refine awp_draw T0_ok hP hm hN Pr_mix [0, 1, 2, 3, 4, 5, 6, 7, 8, 9, 10, 11] [] _ rfl (by rfl) ?_
    refine d1 T0_ok ?_
    refine d1 T0_ok ?_
    refine d1 T0_ok ?_
    refine d1 T0_ok ?_
    refine d1 T0_ok ?_
    refine d1 T0_ok ?_
    refine d1 T0_ok ?_
    refine d1 T0_ok ?_
    refine d1 T0_ok ?_
    refine d1 T0_ok ?_
    refine d1 T0_ok ?_
    refine d1 T0_ok ?_
    refine d1 T0_ok ?_
    refine d1 T0_ok ?_
    refine d1 T0_ok ?_
    refine d1 T0_ok ?_
    refine d1 T0_ok ?_
    refine dreg_nil ?_
    refine awp_cond rfl (fun hc1 => ?_) (fun hc1 => ?_)
    · skip
      have hne : ¬ (xs.getD i pl0).1 = (ys.getD i pl0).1 := by have h := hc1; simp only [bne_iff_ne, ne_eq] at h; exact h
      have hle : elF xs ys (i + 1) = elF xs ys i + 1 := by rw [elF, if_neg hne]
      refine r1 T0_ok hP hm hN ?_
      refine g1 ?_
      refine g1 ?_
      refine g1 ?_
      refine r1 T0_ok hP hm hN ?_
      refine g1 ?_
      refine g1 ?_
      refine g1 ?_
      refine ⟨xs.length - (i + 1), _, by omega, (by rw [hle]; exact weak_sl (sub_cons rfl (sub_cons rfl (sub_cons rfl (sub_cons rfl (sub_nil)))))), i + 1, by omega, rfl, rfl⟩
    · skip
      have hne : (xs.getD i pl0).1 = (ys.getD i pl0).1 := by have h := hc1; simp only [bne_eq_false_iff_eq] at h; exact h
      have hle : elF xs ys (i + 1) = elF xs ys i := by rw [elF, if_pos hne]
      refine awp_skip ?_
      refine r1 T0_ok hP hm hN ?_
      refine g1 ?_
      refine g1 ?_
      refine g1 ?_
      refine ⟨xs.length - (i + 1), _, by omega, (by rw [hle]; exact weak_sl (sub_cons rfl (sub_cons rfl (sub_cons rfl (sub_cons rfl (sub_nil)))))), i + 1, by omega, rfl, rfl⟩
  · skip
    have hgei : ¬ i < xs.length := by simpa using hc0
    have heqi : i = xs.length := by omega
    rw [heqi]
    refine awp_exit ?_
    repeat refine thenA_exit ?_
    refine blockA_hit ?_
    refine awp_seq ?_
    refine r1 T0_ok hP hm hN ?_
    refine g1 ?_
    refine g1 ?_
    refine awp_ret ?_
    refine fin_mk [] rfl rfl ?_ trivial (by decide)
    rfl

noncomputable abbrev s_I_Rack_spreadOut : Spec (Int × List Pl) where
  args := fun x => [rackD x]
  pre := fun x => (1 ≤ x.1 ∧ x.1 ≤ 60) ∧ x.2.length ≤ 1048576
  new := fun x => [⟨67, 9, false, pls (spreadL x.1 x.2)⟩]
  res := fun x => .tup [.agg [.val (.int .i16 x.1), .own 0], .val (.int .i64 (elF x.2 (spreadL x.1 x.2) x.2.length))]

set_option maxRecDepth 20000 in
set_option maxHeartbeats 4000000 in
theorem ok_I_Rack_spreadOut : FnOk Pr 48 s_I_Rack_spreadOut := by
  refine fn_ok 1 0 T0_ok Go.Proofs.Try.func48 rfl (enters_of Go.Proofs.Try.func48 rfl rfl) (fun _ => rfl) (fun _ => rfl) (fun _ => rfl) ?_
  rintro ⟨p, xs⟩ ⟨⟨hp1, hp2⟩, hl⟩ C hP hN hm hG
  change awp C _ _ ⟨[(0, .agg [.val (.int .i16 p), .sl 9 (pls xs)])], [], 0⟩
  simp only at hp1 hp2 hl
  refine awp_seq ?_
  refine r1 T0_ok hP hm hN ?_
  refine g1 ?_
  refine g1 ?_
  refine g1 ?_
  refine awp_seq ?_
  refine awp_drawE T0_ok hP hm hN Pr_mix [0, 1, 2, 3, 4, 5, 6, 7, 8, 9, 10, 11] [4, 5] [(6, 4, 27)] 7 _ rfl rfl rfl (by rfl) (by rfl) ?_
  refine d1 T0_ok ?_
  refine d1 T0_ok ?_
  refine d1 T0_ok ?_
  refine d1 T0_ok ?_
  refine dp1 ?_ (call1 ok_I_Rack_books (_, _) [] (hpre := by (try dsimp only); exact hl))
  refine dp1 ?_ (call1 ok_I_spread (p, xs.map Prod.snd) [] (hpre := by (try dsimp only); exact ⟨⟨by omega, by omega⟩, by rw [List.length_map]; omega⟩)) (hdn := by simp +decide (disch := omega) only [nrm, lk_nrm, dc_nrm, mk_nrm, mf_nrm, ti_nrm, ls_nrm, mp_nrm, nb_nrm, hset, pick_and, pick_or, ↓reduceIte, Nat.reduceAdd, wI64, wI32, wI16, wI8, wU8, List.length_map, Int.toNat_natCast, mask_nrm, spreadL_def]; rfl) (hhp := by simp +decide (disch := omega) only [nrm, lk_nrm, dc_nrm, mk_nrm, mf_nrm, ti_nrm, ls_nrm, mp_nrm, nb_nrm, hset, pick_and, pick_or, ↓reduceIte, Nat.reduceAdd, wI64, wI32, wI16, wI8, wU8, List.length_map, Int.toNat_natCast, mask_nrm, spreadL_def]; try rfl) (hnx := by simp +decide (disch := omega) only [nrm, lk_nrm, dc_nrm, mk_nrm, mf_nrm, ti_nrm, ls_nrm, mp_nrm, nb_nrm, hset, pick_and, pick_or, ↓reduceIte, Nat.reduceAdd, wI64, wI32, wI16, wI8, wU8, List.length_map, Int.toNat_natCast, mask_nrm, spreadL_def]; try rfl) (hsl := by simp +decide (disch := omega) only [nrm, lk_nrm, dc_nrm, mk_nrm, mf_nrm, ti_nrm, ls_nrm, mp_nrm, nb_nrm, hset, pick_and, pick_or, ↓reduceIte, Nat.reduceAdd, wI64, wI32, wI16, wI8, wU8, List.length_map, Int.toNat_natCast, mask_nrm, spreadL_def]; rfl)
  refine dlay T0_ok ?_
  refine dreg_nil ?_
  refine ⟨by (repeat (first | exact fm_nil | refine fm_cons rfl ?_)), ?_⟩
  refine al1 ?_
  refine al0 ?_
  refine g1 ?_
  refine g1 ?_
  refine awp_seq ?_
  refine awp_seq ?_
  refine r1 T0_ok hP hm hN ?_
  refine g1 ?_
  refine g1 ?_
  refine g1 ?_ (hst := by simp +decide (disch := omega) only [nrm, lk_nrm, dc_nrm, mk_nrm, mf_nrm, ti_nrm, ls_nrm, mp_nrm, nb_nrm, hset, pick_and, pick_or, ↓reduceIte, Nat.reduceAdd, wI64, wI32, wI16, wI8, wU8, List.length_map, Int.toNat_natCast, spreadL_len]; rfl)
  refine g1 ?_
  refine awp_block ?_
  have hsl := spreadL_len p xs
  refine awp_loop (fun n st => ∃ i : Nat, i ≤ xs.length ∧ n = xs.length - i ∧ st = ⟨[(17, .val (.int .i64 (i : Nat))), (16, .val (.int .i64 (xs.length : Nat))), (15, .own 3), (5, .val (.int .i64 (elF xs (spreadL p xs) i))), (4, .ptr 4 0 0), (2, .ptr 1 0 0), (1, .ptr 0 0 0)], [(4, ⟨27, 2, true, [[.val (.int .i16 p), .own 3]]⟩), (3, ⟨67, 9, false, pls (spreadL p xs)⟩), (1, ⟨27, 2, true, [[.val (.int .i16 0), .nil]]⟩), (0, ⟨27, 2, true, [[.val (.int .i16 p), .sl 9 (pls xs)]]⟩)], 5⟩) (xs.length) ⟨_, (by exact Weak.trans (weak_drop 2) (weak_sl (sub_cons rfl (sub_cons rfl (sub_cons rfl (sub_cons rfl (sub_cons rfl (sub_cons rfl (sub_cons rfl (sub_nil)))))))))), 0, by omega, rfl, rfl⟩ ?_
  rintro n st ⟨i, hii, hni, rfl⟩
  refine awp_seq ?_
  refine r1 T0_ok hP hm hN ?_
  refine g1 ?_
  refine awp_seq ?_
  refine awp_cond rfl (fun hc0 => ?_) (fun hc0 => ?_)
  · skip
    have hlti : i < xs.length := by simpa using hc0
    have heb := elF_b xs (spreadL p xs) i
    refine awp_skip ?_
    refine awp_seq ?_
    refine awp_block ?_
    refine awp_seq ?_
    refine r1 T0_ok hP hm hN ?_
    refine g1 ?_
    refine g1 ?_
    refine g1 ?_
    refine g1 ?_
    refine g1 ?_
    refine g1 ?_
    refine awp_seq ?_
    refine awp_draw T0_ok hP hm hN Pr_mix [0, 1, 2, 3, 4, 5, 6, 7, 8, 9, 10, 11] [] _ rfl (by rfl) ?_
    refine d1 T0_ok ?_
    refine d1 T0_ok ?_
    refine d1 T0_ok ?_
    refine d1 T0_ok ?_
    refine d1 T0_ok ?_
    refine d1 T0_ok ?_
    refine d1 T0_ok ?_
    refine d1 T0_ok ?_
    refine d1 T0_ok ?_
    refine dreg_nil ?_
    refine awp_cond rfl (fun hc1 => ?_) (fun hc1 => ?_)
    · skip
      have hne : ¬ (xs.getD i pl0).1 = ((spreadL p xs).getD i pl0).1 := by have h := hc1; simp only [bne_iff_ne, ne_eq] at h; exact fun e => h e.symm
      have hle : elF xs (spreadL p xs) (i + 1) = elF xs (spreadL p xs) i + 1 := by rw [elF, if_neg hne]
      refine r1 T0_ok hP hm hN ?_
      refine g1 ?_
      refine g1 ?_
      refine g1 ?_
      refine r1 T0_ok hP hm hN ?_
      refine g1 ?_
      refine g1 ?_
      refine ⟨xs.length - (i + 1), _, by omega, (by rw [hle]; exact Weak.trans (weak_drop 5) (Weak.trans (weak_nx (nx' := 5) (by omega) (by rfl)) (weak_sl (sub_cons rfl (sub_cons rfl (sub_cons rfl (sub_cons rfl (sub_cons rfl (sub_cons rfl (sub_cons rfl (sub_nil))))))))))), i + 1, by omega, rfl, rfl⟩
    · skip
      have hne : (xs.getD i pl0).1 = ((spreadL p xs).getD i pl0).1 := by have h := hc1; simp only [bne_eq_false_iff_eq] at h; exact h.symm
      have hle : elF xs (spreadL p xs) (i + 1) = elF xs (spreadL p xs) i := by rw [elF, if_pos hne]
      refine awp_skip ?_
      refine r1 T0_ok hP hm hN ?_
      refine g1 ?_
      refine g1 ?_
      refine ⟨xs.length - (i + 1), _, by omega, (by rw [hle]; exact Weak.trans (weak_drop 5) (Weak.trans (weak_nx (nx' := 5) (by omega) (by rfl)) (weak_sl (sub_cons rfl (sub_cons rfl (sub_cons rfl (sub_cons rfl (sub_cons rfl (sub_cons rfl (sub_cons rfl (sub_nil))))))))))), i + 1, by omega, rfl, rfl⟩
  · skip
    have hgei : ¬ i < xs.length := by simpa using hc0
    have heqi : i = xs.length := by omega
    rw [heqi]
    refine awp_exit ?_
    repeat refine thenA_exit ?_
    refine blockA_hit ?_
    refine awp_seq ?_
    refine r1 T0_ok hP hm hN ?_
    refine g1 ?_
    refine g1 ?_
    refine g1 ?_
    refine g1 ?_
    refine awp_ret ?_
    refine fin_mk [3] rfl rfl ?_ (objs_cons rfl rfl rfl rfl rfl (.inl rfl) objs_nil) (by decide)
    rfl

noncomputable abbrev s_S_SpreadRack : Spec (Int × List Pl) where
  args := fun x => [rackD x]
  pre := fun x => (isI16 x.1 ∧ ∀ b ∈ x.2, isPl b) ∧ x.2.length ≤ 1048576
  new := fun x => [⟨67, 9, false, pls (spreadR (okR x.1 x.2) x.1 x.2).2.1⟩]
  res := fun x => .tup [.agg [.val (.int .i16 (spreadR (okR x.1 x.2) x.1 x.2).1), .own 0], .val (.int .i64 (spreadR (okR x.1 x.2) x.1 x.2).2.2.1), .val (.int .i64 (spreadR (okR x.1 x.2) x.1 x.2).2.2.2)]

set_option maxRecDepth 20000 in
set_option maxHeartbeats 4000000 in
theorem ok_S_SpreadRack : FnOk Pr 22 s_S_SpreadRack := by
  refine fn_ok 1 0 T0_ok Go.Proofs.Try.func22 rfl (enters_of Go.Proofs.Try.func22 rfl rfl) (fun _ => rfl) (fun _ => rfl) (fun _ => rfl) ?_
  rintro ⟨p, xs⟩ ⟨hv, hl⟩ C hP hN hm hG
  change awp C _ _ ⟨[(0, .agg [.val (.int .i16 p), .sl 9 (pls xs)])], [], 0⟩
  simp only at hv hl
  have hsl := spreadL_len p xs
  refine awp_seq ?_
  refine r1 T0_ok hP hm hN ?_
  refine g1 ?_
  refine g1 ?_
  refine g1 ?_
  refine g1 ?_
  refine awp_seq ?_
  refine awp_seq ?_
  refine r1 T0_ok hP hm hN ?_
  refine gc1 ?_ (call1 ok_S_l05Ok (_, _) [] (hpre := by (try dsimp only); exact ⟨hv, hl⟩))
  refine g1 ?_
  refine awp_cond rfl (fun hc0 => ?_) (fun hc0 => ?_)
  · skip
    have hr : spreadR (okR p xs) p xs = (0, [], 0, 1) := by rw [spreadR, if_pos hc0]
    refine awp_seq ?_
    refine r1 T0_ok hP hm hN ?_
    refine g1 ?_
    refine g1 ?_
    refine g1 ?_
    refine g1 ?_
    refine awp_weak (weak_nilO 1 0 1 67 9 rfl rfl rfl rfl) ?_
    refine awp_ret ?_
    refine fin_mk [2] rfl rfl ?_ (by simp only [hr]; exact objs_cons rfl rfl rfl rfl rfl (.inl rfl) objs_nil) (by decide)
    show D.tup [.agg [.val (.int .i16 (spreadR (okR p xs) p xs).1), .own 2], .val (.int .i64 (spreadR (okR p xs) p xs).2.2.1), .val (.int .i64 (spreadR (okR p xs) p xs).2.2.2)] = _
    rw [hr]
    rfl
  · skip
    have hr : spreadR (okR p xs) p xs = (p, spreadL p xs, elF xs (spreadL p xs) xs.length, 0) := by rw [spreadR, if_neg (by rw [hc0]; simp)]
    have hp1 : 1 ≤ p ∧ p ≤ 60 := by
      have h : okR p xs = true := by simpa using hc0
      rw [okR, Bool.and_eq_true] at h
      exact inI_iff.1 h.1
    obtain ⟨hp1, hp2⟩ := hp1
    refine awp_skip ?_
    refine awp_seq ?_
    refine awp_drawE T0_ok hP hm hN Pr_mix [0, 1, 2, 3, 4, 5, 6, 7, 8, 9, 10, 11] [3, 4] [(5, 5, 27)] 6 _ rfl rfl rfl (by rfl) (by rfl) ?_
    refine d1 T0_ok ?_
    refine d1 T0_ok ?_
    refine d1 T0_ok ?_
    refine dp1 ?_ (call1 ok_S_l05Books (_, _) [] (hpre := by (try dsimp only); exact hl))
    refine dp1 ?_ (call1 ok_S_l05Spread (p, xs.map Prod.snd) [] (hpre := by (try dsimp only); exact ⟨⟨by omega, by omega⟩, by rw [List.length_map]; omega⟩)) (hdn := by simp +decide (disch := omega) only [nrm, lk_nrm, dc_nrm, mk_nrm, mf_nrm, ti_nrm, ls_nrm, mp_nrm, nb_nrm, hset, pick_and, pick_or, ↓reduceIte, Nat.reduceAdd, wI64, wI32, wI16, wI8, wU8, List.length_map, Int.toNat_natCast, mask_nrm, spreadL_def]; rfl) (hhp := by simp +decide (disch := omega) only [nrm, lk_nrm, dc_nrm, mk_nrm, mf_nrm, ti_nrm, ls_nrm, mp_nrm, nb_nrm, hset, pick_and, pick_or, ↓reduceIte, Nat.reduceAdd, wI64, wI32, wI16, wI8, wU8, List.length_map, Int.toNat_natCast, mask_nrm, spreadL_def]; try rfl) (hnx := by simp +decide (disch := omega) only [nrm, lk_nrm, dc_nrm, mk_nrm, mf_nrm, ti_nrm, ls_nrm, mp_nrm, nb_nrm, hset, pick_and, pick_or, ↓reduceIte, Nat.reduceAdd, wI64, wI32, wI16, wI8, wU8, List.length_map, Int.toNat_natCast, mask_nrm, spreadL_def]; try rfl) (hsl := by simp +decide (disch := omega) only [nrm, lk_nrm, dc_nrm, mk_nrm, mf_nrm, ti_nrm, ls_nrm, mp_nrm, nb_nrm, hset, pick_and, pick_or, ↓reduceIte, Nat.reduceAdd, wI64, wI32, wI16, wI8, wU8, List.length_map, Int.toNat_natCast, mask_nrm, spreadL_def]; rfl)
    refine dlay T0_ok ?_
    refine dreg_nil ?_
    refine ⟨by (repeat (first | exact fm_nil | refine fm_cons rfl ?_)), ?_⟩
    refine al1 ?_
    refine al0 ?_
    refine g1 ?_
    refine awp_seq ?_
    refine awp_draw T0_ok hP hm hN Pr_mix [0, 4] [1, 2] _ rfl (by rfl) ?_
    refine d1 T0_ok ?_
    refine dp1 ?_ (call1 ok_S_l05Elsewhere ((p, xs), (p, spreadL p xs)) [] (hargs := (by exact args_cons (argc_rptr (by simp) rfl rfl rfl (.inr (by simp [hf]))) (args_cons (argc_rptrV (by simp) rfl rfl ⟨⟨cellV_hf rfl, cellV_own (by simp) rfl rfl rfl rfl, trivial⟩, trivial⟩) args_nil))) (hpre := by (try dsimp only); exact ⟨hl, by rw [spreadL_len]; omega⟩))
    refine dp1 ?_ (oprel_astep T0_ok (by rfl) rfl (by first | trivial | rfl | exact ⟨rfl, rfl⟩ | exact ⟨rfl, rfl, fun _ => rfl, Nat.le_of_ble_eq_true rfl, .inl rfl⟩ | exact ⟨rfl, rfl, fun h => (nomatch h), Nat.le_of_ble_eq_true rfl, .inl rfl⟩ | exact ⟨rfl, rfl, fun _ => rfl, Nat.le_of_ble_eq_true rfl, .inr rfl⟩ | exact ⟨rfl, rfl, fun h => (nomatch h), Nat.le_of_ble_eq_true rfl, .inr rfl⟩ | omega | exact ⟨rfl, by (repeat (first | exact fm_nil | refine fm_cons ⟨rfl, rfl⟩ ?_)), Nat.le_of_ble_eq_true rfl, Nat.le_of_ble_eq_true rfl⟩ | (refine ⟨?_, ?_, ?_, ?_, ?_, ?_, ?_⟩ <;> first | omega | exact Nat.le_of_ble_eq_true rfl) | exact ⟨rfl, by omega, by (try simp only [List.length_map, List.length_set]); omega⟩ | exact ⟨rfl, by omega, by simp only [Int.toNat_natCast]; omega, by omega, Nat.le_of_ble_eq_true rfl, rfl⟩))
    refine d1 T0_ok ?_
    refine d1 T0_ok ?_
    refine dreg_nil ?_
    refine awp_ret ?_
    refine fin_mk [3] rfl rfl ?_ (by simp only [hr]; exact objs_cons rfl rfl rfl rfl rfl (.inl rfl) objs_nil) (by decide)
    show D.tup [.agg [.val (.int .i16 (spreadR (okR p xs) p xs).1), .own 3], .val (.int .i64 (spreadR (okR p xs) p xs).2.2.1), .val (.int .i64 (spreadR (okR p xs) p xs).2.2.2)] = _
    rw [hr]
    rfl

noncomputable abbrev s_I_SpreadRack : Spec (Int × List Pl) where
  args := fun x => [rackD x]
  pre := fun x => (∀ b ∈ x.2, isPl b) ∧ x.2.length ≤ 1048576
  new := fun x => [⟨67, 9, false, pls (spreadR (validR x.1 x.2) x.1 x.2).2.1⟩]
  res := fun x => .tup [.agg [.val (.int .i16 (spreadR (validR x.1 x.2) x.1 x.2).1), .own 0], .val (.int .i64 (spreadR (validR x.1 x.2) x.1 x.2).2.2.1), .val (.int .i64 (spreadR (validR x.1 x.2) x.1 x.2).2.2.2)]

set_option maxRecDepth 20000 in
set_option maxHeartbeats 4000000 in
theorem ok_I_SpreadRack : FnOk Pr 23 s_I_SpreadRack := by
  refine fn_ok 1 0 T0_ok Go.Proofs.Try.func23 rfl (enters_of Go.Proofs.Try.func23 rfl rfl) (fun _ => rfl) (fun _ => rfl) (fun _ => rfl) ?_
  rintro ⟨p, xs⟩ ⟨hv, hl⟩ C hP hN hm hG
  change awp C _ _ ⟨[(0, .agg [.val (.int .i16 p), .sl 9 (pls xs)])], [], 0⟩
  simp only at hv hl
  have hsl := spreadL_len p xs
  refine awp_seq ?_
  refine r1 T0_ok hP hm hN ?_
  refine g1 ?_
  refine g1 ?_
  refine g1 ?_
  refine g1 ?_
  refine awp_seq ?_
  refine awp_seq ?_
  refine r1 T0_ok hP hm hN ?_
  refine g1 ?_
  refine gc1 ?_ (call1 ok_I_ValidRack (_, _) [] (hpre := by (try dsimp only); exact ⟨hv, hl⟩))
  refine g1 ?_
  refine awp_cond rfl (fun hc0 => ?_) (fun hc0 => ?_)
  · skip
    have hr : spreadR (validR p xs) p xs = (0, [], 0, 1) := by rw [spreadR, if_pos hc0]
    refine awp_seq ?_
    refine r1 T0_ok hP hm hN ?_
    refine g1 ?_
    refine g1 ?_
    refine g1 ?_
    refine g1 ?_
    refine awp_weak (weak_nilO 1 0 1 67 9 rfl rfl rfl rfl) ?_
    refine awp_ret ?_
    refine fin_mk [2] rfl rfl ?_ (by simp only [hr]; exact objs_cons rfl rfl rfl rfl rfl (.inl rfl) objs_nil) (by decide)
    show D.tup [.agg [.val (.int .i16 (spreadR (validR p xs) p xs).1), .own 2], .val (.int .i64 (spreadR (validR p xs) p xs).2.2.1), .val (.int .i64 (spreadR (validR p xs) p xs).2.2.2)] = _
    rw [hr]
    rfl
  · skip
    have hr : spreadR (validR p xs) p xs = (p, spreadL p xs, elF xs (spreadL p xs) xs.length, 0) := by rw [spreadR, if_neg (by rw [hc0]; simp)]
    have hp1 : 1 ≤ p ∧ p ≤ 60 := by
      have h : validR p xs = true := by simpa using hc0
      rw [validR, Bool.and_eq_true, Bool.and_eq_true, Bool.and_eq_true] at h
      exact inI_iff.1 h.1.1.1
    obtain ⟨hp1, hp2⟩ := hp1
    refine awp_skip ?_
    refine awp_seq ?_
    refine r1 T0_ok hP hm hN ?_
    refine g1 ?_
    refine gc1 ?_ (call1 ok_I_Rack_spreadOut (p, xs) [] (hpre := by (try dsimp only); exact ⟨⟨by omega, by omega⟩, hl⟩)) (hst := by simp +decide (disch := omega) only [nrm, lk_nrm, dc_nrm, mk_nrm, mf_nrm, ti_nrm, ls_nrm, mp_nrm, nb_nrm, hset, pick_and, pick_or, ↓reduceIte, Nat.reduceAdd, wI64, wI32, wI16, wI8, wU8, List.length_map, Int.toNat_natCast, spreadL_def]; rfl)
    refine g1 ?_
    refine g1 ?_
    refine g1 ?_
    refine g1 ?_
    refine g1 ?_
    refine g1 ?_
    refine awp_seq ?_
    refine r1 T0_ok hP hm hN ?_
    refine g1 ?_
    refine g1 ?_
    refine g1 ?_
    refine g1 ?_
    refine g1 ?_
    refine awp_ret ?_
    refine fin_mk [2] rfl rfl ?_ (by simp only [hr]; exact objs_cons rfl rfl rfl rfl rfl (.inl rfl) objs_nil) (by decide)
    show D.tup [.agg [.val (.int .i16 (spreadR (validR p xs) p xs).1), .own 2], .val (.int .i64 (spreadR (validR p xs) p xs).2.2.1), .val (.int .i64 (spreadR (validR p xs) p xs).2.2.2)] = _
    rw [hr]
    rfl
end Go.Proofs.Ytlmpclapnpajhaa.Abs
