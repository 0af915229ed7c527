import Derived.Test.YtkccgfpeobpheaaW18
set_option linter.unusedVariables false
set_option linter.unusedSimpArgs false
namespace Go.Proofs.Ytkccgfpeobpheaa.Abs
open Go Go.RowKit
def mkd_int (n : Nat) (k : Int) : List Int := (List.range n).map fun (j : Nat) => k + (j : Int)
def mix_int (xs : List Int) (k : Int) (i : Nat) : List Int := mkd_int i k ++ xs.drop i
theorem mkd_int_len (n : Nat) (k : Int) : (mkd_int n k).length = n := by simp [mkd_int]
theorem mkd_int_get {n : Nat} {k : Int} {j : Nat} (h : j < n) : (mkd_int n k).getD j 0 = k + (j : Int) := by simp [mkd_int, List.getD, h]
theorem mix_int_zero (xs : List Int) (k : Int) : mix_int xs k 0 = xs := by simp [mix_int, mkd_int]
theorem mix_int_all (xs : List Int) (k : Int) : mix_int xs k xs.length = mkd_int xs.length k := by simp [mix_int]
theorem mix_int_len (xs : List Int) (k : Int) {i : Nat} (h : i ≤ xs.length) : (mix_int xs k i).length = xs.length := by simp [mix_int, mkd_int]; omega
theorem mix_int_set (xs : List Int) (k : Int) {i : Nat} (h : i < xs.length) : (mix_int xs k i).set i (k + (i : Int)) = mix_int xs k (i + 1) := by
  have e : mkd_int (i + 1) k = mkd_int i k ++ [k + (i : Int)] := by simp [mkd_int, List.range_succ]
  unfold mix_int
  rw [e, List.set_append_right _ _ (by simp [mkd_int]), mkd_int_len, Nat.sub_self, List.drop_eq_getElem_cons h, List.set_cons_zero, List.append_assoc]
  rfl
noncomputable def heldR_int (xs : List Int) (k : Int) : Int := if ask (xs = mkd_int xs.length k) then k + xs.length else -1
theorem heldR_int_no {xs : List Int} {k : Int} {i : Nat} (hi : i < xs.length) (h : xs.getD i 0 ≠ k + (i : Int)) : heldR_int xs k = -1 := by
  unfold heldR_int
  rw [ask_false (fun e => h (by rw [e, mkd_int_get hi]))]
  rfl
theorem heldR_int_yes {xs : List Int} {k : Int} (h : ∀ i, i < xs.length → xs.getD i 0 = k + (i : Int)) : heldR_int xs k = k + xs.length := by
  unfold heldR_int
  rw [ask_true (list_ext' (d := 0) (mkd_int_len _ _).symm (fun j hj => by rw [h j hj, mkd_int_get hj]))]
  rfl
theorem heldR_int_mkd (n : Nat) (k : Int) : heldR_int (mkd_int n k) k = k + n := by
  rw [heldR_int_yes (fun i hi => by rw [mkd_int_len] at hi; exact mkd_int_get hi), mkd_int_len]

noncomputable abbrev s_L_markInt64S : Spec (List Int × Int) where
  args := fun x => [.own 0, .val (.int .i64 x.2)]
  pre := fun x => x.1.length ≤ 4611686018427387904 ∧ 0 ≤ x.2 ∧ x.2 + x.1.length ≤ 4611686018427387904
  obs := fun x => [⟨2, 1, false, i64s (x.1)⟩]
  out := fun x => [⟨2, 1, false, i64s (mkd_int x.1.length x.2)⟩]
  res := fun x => .val (.int .i64 (x.2 + x.1.length))

set_option maxRecDepth 20000 in
set_option maxHeartbeats 1000000 in
theorem ok_L_markInt64S : FnOk Pr 28 s_L_markInt64S := by
  refine fn_ok 2 1 T0_ok Go.Proofs.Try.func28 rfl (enters_of Go.Proofs.Try.func28 rfl rfl) (fun _ => rfl) (fun _ => rfl) (fun _ => rfl) ?_
  rintro ⟨xs, k⟩ ⟨hl, hk0, hk⟩ C hP hN hm hG
  change awp C _ _ ⟨[(0, .own 0), (1, .val (.int .i64 k))], [(0, ⟨2, 1, false, i64s (xs)⟩)], 1⟩
  simp only at hl hk0 hk
  refine awp_seq ?_
  refine r1 T0_ok hP hm hN ?_
  refine g1 ?_
  refine awp_seq ?_
  refine awp_seq ?_
  refine r1 T0_ok hP hm hN ?_
  refine g1 ?_
  refine awp_block ?_
  refine awp_loop (fun n st => ∃ i : Nat, i ≤ xs.length ∧ n = xs.length - i ∧ st = ⟨[(5, .val (.int .i64 (i : Nat))), (1, .val (.int .i64 (k + ((i : Nat) : Int)))), (0, .own 0)], [(0, ⟨2, 1, false, i64s (mix_int xs k i)⟩)], 1⟩) (xs.length) ⟨_, (by rw [mix_int_zero, show k + ((0 : Nat) : Int) = k by omega]; exact weak_sl (sub_cons rfl (sub_cons rfl (sub_cons rfl (sub_nil))))), 0, by omega, rfl, rfl⟩ ?_
  rintro n st ⟨i, hii, hni, rfl⟩
  have hml := mix_int_len xs k hii
  refine awp_seq ?_
  refine awp_seq ?_
  refine r1 T0_ok hP hm hN ?_
  refine g1 ?_
  refine g1 ?_
  refine g1 ?_
  refine g1 ?_
  refine awp_cond rfl (fun hc0 => ?_) (fun hc0 => ?_)
  · skip
    have hlti : i < xs.length := by simp [hml] at hc0; exact hc0
    refine awp_skip ?_
    refine awp_seq ?_
    refine awp_block ?_
    refine awp_seq ?_
    refine r1 T0_ok hP hm hN ?_
    refine g1 ?_
    refine g1 ?_
    refine g1 ?_
    refine g1 ?_
    refine g1 ?_
    refine r1 T0_ok hP hm hN ?_
    refine g1 ?_
    refine g1 ?_
    refine g1 ?_
    refine r1 T0_ok hP hm hN ?_
    refine g1 ?_
    refine g1 ?_
    refine g1 ?_
    refine ⟨xs.length - (i + 1), _, by omega, (by rw [← mix_int_set xs k hlti, i64s_set', show k + ((i + 1 : Nat) : Int) = k + (i : Int) + 1 by omega]; exact weak_sl (sub_cons rfl (sub_cons rfl (sub_cons rfl (sub_nil))))), i + 1, by omega, rfl, rfl⟩
  · skip
    have hgei : ¬ i < xs.length := by simp [hml] at hc0; omega
    have heqi : i = xs.length := by omega
    rw [heqi, mix_int_all]
    refine awp_exit ?_
    repeat refine thenA_exit ?_
    refine blockA_hit ?_
    refine awp_seq ?_
    refine r1 T0_ok hP hm hN ?_
    refine g1 ?_
    refine g1 ?_
    refine awp_ret ?_
    refine fin_mk [] rfl rfl ?_ (objs_cons rfl rfl rfl rfl rfl (.inl rfl) objs_nil) (by decide)
    rfl

noncomputable abbrev s_L_heldInt64S : Spec (List Int × Int) where
  args := fun x => [.sl 1 (i64s x.1), .val (.int .i64 x.2)]
  pre := fun x => x.1.length ≤ 4611686018427387904 ∧ 0 ≤ x.2 ∧ x.2 + x.1.length ≤ 4611686018427387904
  res := fun x => .val (.int .i64 (heldR_int x.1 x.2))

set_option maxRecDepth 20000 in
set_option maxHeartbeats 1000000 in
theorem ok_L_heldInt64S : FnOk Pr 29 s_L_heldInt64S := by
  refine fn_ok 2 0 T0_ok Go.Proofs.Try.func29 rfl (enters_of Go.Proofs.Try.func29 rfl rfl) (fun _ => rfl) (fun _ => rfl) (fun _ => rfl) ?_
  rintro ⟨xs, k⟩ ⟨hl, hk0, hk⟩ C hP hN hm hG
  change awp C _ _ ⟨[(0, .sl 1 (i64s xs)), (1, .val (.int .i64 k))], [], 0⟩
  simp only at hl hk0 hk
  refine awp_seq ?_
  refine r1 T0_ok hP hm hN ?_
  refine g1 ?_
  refine awp_seq ?_
  refine awp_seq ?_
  refine r1 T0_ok hP hm hN ?_
  refine g1 ?_
  refine awp_block ?_
  refine awp_loop (fun n st => ∃ i : Nat, i ≤ xs.length ∧ (∀ j, j < i → xs.getD j 0 = k + (j : Int)) ∧ n = xs.length - i ∧ st = ⟨[(5, .val (.int .i64 (i : Nat))), (1, .val (.int .i64 (k + ((i : Nat) : Int)))), (0, .sl 1 (i64s xs))], [], 0⟩) (xs.length) ⟨_, (by rw [show k + ((0 : Nat) : Int) = k by omega]; exact weak_sl (sub_cons rfl (sub_cons rfl (sub_cons rfl (sub_nil))))), 0, by omega, fun j h => by omega, rfl, rfl⟩ ?_
  rintro n st ⟨i, hii, hall, hni, rfl⟩
  refine awp_seq ?_
  refine awp_seq ?_
  refine r1 T0_ok hP hm hN ?_
  refine g1 ?_
  refine g1 ?_
  refine g1 ?_
  refine g1 ?_
  refine awp_cond rfl (fun hc0 => ?_) (fun hc0 => ?_)
  · skip
    have hlti : i < xs.length := by simpa using hc0
    refine awp_skip ?_
    refine awp_seq ?_
    refine awp_block ?_
    refine awp_seq ?_
    refine awp_seq ?_
    refine r1 T0_ok hP hm hN ?_
    refine g1 ?_
    refine g1 ?_
    refine g1 ?_
    refine g1 ?_
    refine g1 ?_
    refine g1 ?_
    refine awp_cond rfl (fun hc1 => ?_) (fun hc1 => ?_)
    · skip
      refine awp_seq ?_
      refine r1 T0_ok hP hm hN ?_
      refine g1 ?_
      refine awp_ret ?_
      refine fin_mk [] rfl rfl ?_ trivial (by decide)
      show D.val (.int .i64 (heldR_int xs k)) = D.val (.int .i64 (-1))
      rw [heldR_int_no hlti (fun e => by rw [e] at hc1; simp at hc1)]
    · skip
      refine awp_skip ?_
      refine r1 T0_ok hP hm hN ?_
      refine g1 ?_
      refine g1 ?_
      refine g1 ?_
      refine r1 T0_ok hP hm hN ?_
      refine g1 ?_
      refine g1 ?_
      refine g1 ?_
      refine ⟨xs.length - (i + 1), _, by omega, (by rw [show k + ((i + 1 : Nat) : Int) = k + (i : Int) + 1 by omega]; exact weak_sl (sub_cons rfl (sub_cons rfl (sub_cons rfl (sub_nil))))), i + 1, by omega, upto_step hall (by have h := hc1; simp only [bne_eq_false_iff_eq] at h; exact h), rfl, rfl⟩
  · skip
    have hgei : ¬ i < xs.length := by simpa using hc0
    have heqi : i = xs.length := by omega
    refine awp_exit ?_
    repeat refine thenA_exit ?_
    refine blockA_hit ?_
    refine awp_seq ?_
    refine r1 T0_ok hP hm hN ?_
    refine g1 ?_
    refine g1 ?_
    refine awp_ret ?_
    refine fin_mk [] rfl rfl ?_ trivial (by decide)
    show D.val (.int .i64 (heldR_int xs k)) = _
    rw [heldR_int_yes (fun j hj => hall j (by omega)), ← heqi]
    rfl

/-- The numbers below k that are not taken. -/
def freeF (tk : Nat → Bool) : Nat → List Int
  | 0 => []
  | k + 1 => if tk k then freeF tk k else freeF tk k ++ [(k : Int)]
theorem freeF_len (tk : Nat → Bool) : ∀ k, (freeF tk k).length ≤ k
  | 0 => by simp [freeF]
  | k + 1 => by
    have := freeF_len tk k
    unfold freeF
    split
    · omega
    · simp; omega
theorem freeF_congr {tk tk' : Nat → Bool} : ∀ k, (∀ j, j < k → tk j = tk' j) → freeF tk k = freeF tk' k
  | 0, _ => rfl
  | k + 1, h => by
    unfold freeF
    rw [freeF_congr k (fun j hj => h j (by omega)), h k (by omega)]
theorem freeF_yes {tk : Nat → Bool} {k : Nat} (h : (!tk k) = true) : freeF tk (k + 1) = freeF tk k ++ [(k : Int)] := by rw [freeF, if_neg (by simpa using h)]
theorem freeF_no {tk : Nat → Bool} {k : Nat} (h : (!tk k) = false) : freeF tk (k + 1) = freeF tk k := by rw [freeF, if_pos (by simpa using h)]
def freeR (ok : Bool) (l : List Int) : List Int × Int := if !ok then ([], 1) else (l, 0)
theorem free_same {p : Int} {xs : List Pl} : freeR (validR p xs) (freeF (tkI p xs) p.toNat) = freeR (okR p xs) (freeF (tkS xs) p.toNat) := by
  rw [okR_validR]
  cases h : validR p xs with
  | false => rfl
  | true =>
    obtain ⟨⟨h1, h2⟩, h3⟩ := validR_ats h
    rw [freeF_congr (tk := tkI p xs) (tk' := tkS xs) p.toNat (fun j hj => (takenF_same (n := p.toNat) (by omega) xs.length (fun q hq => by have := h3 _ (getD_mem' (d := pl0) hq); omega) j hj).symm)]
theorem freeR_len {p : Int} {xs : List Pl} {tk : Nat → Bool} (hp : p ≤ 32767) (ok : Bool) : (freeR ok (freeF tk p.toNat)).1.length ≤ 32767 := by
  have := freeF_len tk p.toNat
  cases ok <;> simp [freeR] <;> omega

noncomputable abbrev s_S_FreePlaces : Spec (Int × List Pl) where
  args := fun x => [rackD x]
  pre := fun x => (isI16 x.1 ∧ ∀ b ∈ x.2, isPl b) ∧ x.2.length ≤ 1048576
  new := fun x => [⟨2, 1, false, i64s ((freeR (okR x.1 x.2) (freeF (tkS x.2) x.1.toNat)).1)⟩]
  res := fun x => .tup [.own 0, .val (.int .i64 (freeR (okR x.1 x.2) (freeF (tkS x.2) x.1.toNat)).2)]

set_option maxRecDepth 20000 in
set_option maxHeartbeats 4000000 in
theorem ok_S_FreePlaces : FnOk Pr 24 s_S_FreePlaces := by
  refine fn_ok 1 0 T0_ok Go.Proofs.Try.func24 rfl (enters_of Go.Proofs.Try.func24 rfl rfl) (fun _ => rfl) (fun _ => rfl) (fun _ => rfl) ?_
  rintro ⟨p, xs⟩ ⟨⟨hpp, hv⟩, hl⟩ C hP hN hm hG
  change awp C _ _ ⟨[(0, .agg [.val (.int .i16 p), .sl 9 (pls xs)])], [], 0⟩
  simp only at hv hl
  have htl := takenF_len 60 xs xs.length
  refine awp_seq ?_
  refine r1 T0_ok hP hm hN ?_
  refine g1 ?_
  refine g1 ?_
  refine g1 ?_
  refine awp_seq ?_
  refine awp_seq ?_
  refine r1 T0_ok hP hm hN ?_
  refine gc1 ?_ (call1 ok_S_l05Ok (_, _) [] (hpre := by (try dsimp only); exact ⟨⟨hpp, hv⟩, hl⟩))
  refine g1 ?_
  refine awp_cond rfl (fun hc0 => ?_) (fun hc0 => ?_)
  · skip
    have hr : freeR (okR p xs) (freeF (tkS xs) p.toNat) = ([], 1) := by rw [freeR, if_pos hc0]
    refine awp_seq ?_
    refine r1 T0_ok hP hm hN ?_
    refine g1 ?_
    refine g1 ?_
    refine g1 ?_
    refine awp_ret ?_
    refine fin_mk [1] rfl rfl ?_ (by simp only [hr]; exact objs_cons rfl rfl rfl rfl rfl (.inl rfl) objs_nil) (by decide)
    show D.tup [.own 1, .val (.int .i64 (freeR (okR p xs) (freeF (tkS xs) p.toNat)).2)] = _
    rw [hr]
    rfl
  · skip
    have hok : validR p xs = true := by rw [← okR_validR]; simpa using hc0
    obtain ⟨hpp2, ha⟩ := validR_ats hok
    have hpz : p ≤ 60 := hpp2.2
    have hr : freeR (okR p xs) (freeF (tkS xs) p.toNat) = (freeF (tkS xs) p.toNat, 0) := by rw [freeR, if_neg (by rw [hc0]; simp)]
    refine awp_skip ?_
    refine awp_seq ?_
    refine r1 T0_ok hP hm hN ?_
    refine gc1 ?_ (call1 ok_S_l05Taken (_, _) [] (hpre := by (try dsimp only); exact ⟨hl, hpp2, ha⟩))
    refine g1 ?_
    refine gst (store_bools (by rfl) (by rfl) (by rfl) (by rfl) (by rfl) (by rfl) (by rfl) (by rw [htl]) (by rw [htl]; rfl)) (by rfl) (by simp +decide (disch := omega) only [nrm, lk_nrm, dc_nrm, mk_nrm, mf_nrm, ti_nrm, ls_nrm, mp_nrm, nb_nrm, hset, pick_and, pick_or, ↓reduceIte, Nat.reduceAdd, wI64, wI32, wI16, wI8, wU8, List.length_map, Int.toNat_natCast]; rfl) ?_
    refine awp_seq ?_
    refine r1 T0_ok hP hm hN ?_
    refine g1 ?_
    refine g1 ?_
    refine awp_seq ?_
    refine awp_seq ?_
    refine r1 T0_ok hP hm hN ?_
    refine g1 ?_
    refine awp_block ?_
    refine awp_loop (fun n st => ∃ i : Nat, i ≤ p.toNat ∧ n = p.toNat - i ∧ st = ⟨[(6, .val (.int .i64 (i : Nat))), (5, .own 2), (4, .ptr 1 0 0), (1, .ptr 0 0 0)], [(2, ⟨2, 1, false, i64s (freeF (tkS xs) i)⟩), (1, ⟨87, 60, true, [boolR (takenF 60 xs xs.length)]⟩), (0, ⟨30, 2, true, [[.val (.int .i16 p), .sl 9 (pls xs)]]⟩)], 3⟩) (p.toNat) ⟨_, weak_sl (sub_cons rfl (sub_cons rfl (sub_cons rfl (sub_cons rfl (sub_nil))))), 0, by omega, rfl, rfl⟩ ?_
    rintro n st ⟨i, hii, hni, rfl⟩
    have hle := freeF_len (tkS xs) i
    refine awp_seq ?_
    refine awp_seq ?_
    refine r1 T0_ok hP hm hN ?_
    refine g1 ?_
    refine g1 ?_
    refine g1 ?_
    refine g1 ?_
    refine g1 ?_
    refine awp_cond rfl (fun hc1 => ?_) (fun hc1 => ?_)
    · skip
      have hlti : i < p.toNat := by simp at hc1; omega
      refine awp_skip ?_
      refine awp_seq ?_
      refine awp_block ?_
      refine awp_seq ?_
      refine r1 T0_ok hP hm hN ?_
      refine g1 ?_
      refine g1 ?_ (hpre := by exact ⟨by omega, by omega⟩) (hst := by simp +decide (disch := omega) only [nrm, lk_nrm, dc_nrm, mk_nrm, mf_nrm, ti_nrm, ls_nrm, mp_nrm, nb_nrm, hset, pick_and, pick_or, ↓reduceIte, Nat.reduceAdd, wI64, wI32, wI16, wI8, wU8, List.length_map, Int.toNat_natCast, Nat.zero_add, Nat.mul_one]; rfl)
      refine g1 ?_ (hs := load_bool (by rfl) (by rfl) (by rfl) (by rfl) (by rfl) (by rfl) (by omega))
      refine g1 ?_
      refine awp_cond rfl (fun hc2 => ?_) (fun hc2 => ?_)
      · skip
        have e1 := freeF_yes (tk := tkS xs) (k := i) hc2
        refine r1 T0_ok hP hm hN ?_
        refine g1 ?_
        refine g1 ?_
        refine g1 ?_
        refine ga1 ?_ (hst := by simp +decide (disch := omega) only [nrm, lk_nrm, dc_nrm, mk_nrm, mf_nrm, ti_nrm, ls_nrm, mp_nrm, nb_nrm, hset, pick_and, pick_or, ↓reduceIte, Nat.reduceAdd, wI64, wI32, wI16, wI8, wU8, List.length_map, Int.toNat_natCast, kl_nrm, kc_bools]; rfl)
        refine g1 ?_
        refine r1 T0_ok hP hm hN ?_
        refine g1 ?_
        refine g1 ?_
        refine g1 ?_
        refine ⟨p.toNat - (i + 1), _, by omega, (by rw [e1]; first | exact weak_sl (sub_cons rfl (sub_cons rfl (sub_cons rfl (sub_cons rfl (sub_nil))))) | (rw [i64s_app]; refine Weak.trans (weak_drop 3) ?_; simp +decide only [dh_nrm, kl_nrm, kc_bools, mp_nrm, ↓reduceIte]; exact Weak.trans (weak_nx (nx' := 3) (by omega) (by rfl)) (weak_sl (sub_cons rfl (sub_cons rfl (sub_cons rfl (sub_cons rfl (sub_nil)))))))), i + 1, by omega, rfl, rfl⟩
      · skip
        have e1 := freeF_no (tk := tkS xs) (k := i) hc2
        refine awp_skip ?_
        refine r1 T0_ok hP hm hN ?_
        refine g1 ?_
        refine g1 ?_
        refine g1 ?_
        refine ⟨p.toNat - (i + 1), _, by omega, (by rw [e1]; first | exact weak_sl (sub_cons rfl (sub_cons rfl (sub_cons rfl (sub_cons rfl (sub_nil))))) | (rw [i64s_app]; refine Weak.trans (weak_drop 3) ?_; simp +decide only [dh_nrm, kl_nrm, kc_bools, mp_nrm, ↓reduceIte]; exact Weak.trans (weak_nx (nx' := 3) (by omega) (by rfl)) (weak_sl (sub_cons rfl (sub_cons rfl (sub_cons rfl (sub_cons rfl (sub_nil)))))))), i + 1, by omega, rfl, rfl⟩
    · skip
      have heqi : i = p.toNat := by simp at hc1; omega
      subst heqi
      refine awp_exit ?_
      repeat refine thenA_exit ?_
      refine blockA_hit ?_
      refine awp_seq ?_
      refine r1 T0_ok hP hm hN ?_
      refine g1 ?_
      refine g1 ?_
      refine g1 ?_
      refine awp_ret ?_
      refine fin_mk [2] rfl rfl ?_ (by simp only [hr]; exact objs_cons rfl rfl rfl rfl rfl (.inl rfl) objs_nil) (by decide)
      show D.tup [.own 2, .val (.int .i64 (freeR (okR p xs) (freeF (tkS xs) p.toNat)).2)] = _
      rw [hr]
      rfl

noncomputable abbrev s_I_FreePlaces : Spec (Int × List Pl) where
  args := fun x => [rackD x]
  pre := fun x => (∀ b ∈ x.2, isPl b) ∧ x.2.length ≤ 1048576
  new := fun x => [⟨2, 1, false, i64s ((freeR (validR x.1 x.2) (freeF (tkI x.1 x.2) x.1.toNat)).1)⟩]
  res := fun x => .tup [.own 0, .val (.int .i64 (freeR (validR x.1 x.2) (freeF (tkI x.1 x.2) x.1.toNat)).2)]

set_option maxRecDepth 20000 in
set_option maxHeartbeats 4000000 in
theorem ok_I_FreePlaces : FnOk Pr 25 s_I_FreePlaces := by
  refine fn_ok 1 0 T0_ok Go.Proofs.Try.func25 rfl (enters_of Go.Proofs.Try.func25 rfl rfl) (fun _ => rfl) (fun _ => rfl) (fun _ => rfl) ?_
  rintro ⟨p, xs⟩ ⟨hv, hl⟩ C hP hN hm hG
  change awp C _ _ ⟨[(0, .agg [.val (.int .i16 p), .sl 9 (pls xs)])], [], 0⟩
  simp only at hv hl
  have htl := takenF_len p.toNat xs xs.length
  refine awp_seq ?_
  refine r1 T0_ok hP hm hN ?_
  refine g1 ?_
  refine g1 ?_
  refine g1 ?_
  refine awp_seq ?_
  refine awp_seq ?_
  refine r1 T0_ok hP hm hN ?_
  refine g1 ?_
  refine gc1 ?_ (call1 ok_I_ValidRack (_, _) [] (hpre := by (try dsimp only); exact ⟨hv, hl⟩))
  refine g1 ?_
  refine awp_cond rfl (fun hc0 => ?_) (fun hc0 => ?_)
  · skip
    have hr : freeR (validR p xs) (freeF (tkI p xs) p.toNat) = ([], 1) := by rw [freeR, if_pos hc0]
    refine awp_seq ?_
    refine r1 T0_ok hP hm hN ?_
    refine g1 ?_
    refine g1 ?_
    refine awp_weak (weak_nil 2 2 1 rfl) ?_
    refine awp_ret ?_
    refine fin_mk [1] rfl rfl ?_ (by simp only [hr]; exact objs_cons rfl rfl rfl rfl rfl (.inl rfl) objs_nil) (by decide)
    show D.tup [.own 1, .val (.int .i64 (freeR (validR p xs) (freeF (tkI p xs) p.toNat)).2)] = _
    rw [hr]
    rfl
  · skip
    have hok : validR p xs = true := by simpa using hc0
    obtain ⟨hpp2, ha⟩ := validR_ats hok
    have hpz : p ≤ 60 := hpp2.2
    have hr : freeR (validR p xs) (freeF (tkI p xs) p.toNat) = (freeF (tkI p xs) p.toNat, 0) := by rw [freeR, if_neg (by rw [hc0]; simp)]
    refine awp_skip ?_
    refine awp_seq ?_
    refine r1 T0_ok hP hm hN ?_
    refine g1 ?_
    refine awp_seq ?_
    refine awp_seq ?_
    refine r1 T0_ok hP hm hN ?_
    refine g1 ?_
    refine gc1 ?_ (call1 ok_I_Rack_taken (_, _) [] (hpre := by (try dsimp only); exact ⟨hl, hpp2, ha⟩))
    refine g1 ?_ (hst := by simp +decide (disch := omega) only [nrm, lk_nrm, dc_nrm, mk_nrm, mf_nrm, ti_nrm, ls_nrm, mp_nrm, nb_nrm, hset, pick_and, pick_or, ↓reduceIte, Nat.reduceAdd, wI64, wI32, wI16, wI8, wU8, List.length_map, Int.toNat_natCast, takenF_len]; rfl)
    refine g1 ?_
    refine awp_block ?_
    refine awp_loop (fun n st => ∃ i : Nat, i ≤ p.toNat ∧ n = p.toNat - i ∧ st = ⟨[(13, .val (.int .i64 (i : Nat))), (12, .val (.int .i64 (p.toNat : Int))), (11, .own 1), (4, .own 2)], [(2, ⟨2, 1, false, i64s (freeF (tkI p xs) i)⟩), (1, ⟨4, 1, false, boolD (takenF p.toNat xs xs.length)⟩), (0, ⟨30, 2, true, [[.val (.int .i16 p), .sl 9 (pls xs)]]⟩)], 3⟩) (p.toNat) ⟨_, (by exact Weak.trans (weak_nil 4 2 1 rfl) (weak_sl (sub_cons rfl (sub_cons rfl (sub_cons rfl (sub_cons rfl (sub_nil))))))), 0, by omega, rfl, rfl⟩ ?_
    rintro n st ⟨i, hii, hni, rfl⟩
    have hle := freeF_len (tkI p xs) i
    refine awp_seq ?_
    refine r1 T0_ok hP hm hN ?_
    refine g1 ?_
    refine awp_seq ?_
    refine awp_cond rfl (fun hc1 => ?_) (fun hc1 => ?_)
    · skip
      have hlti : i < p.toNat := by simp at hc1; omega
      refine awp_skip ?_
      refine awp_seq ?_
      refine awp_block ?_
      refine awp_seq ?_
      refine r1 T0_ok hP hm hN ?_
      refine g1 ?_
      refine g1 ?_
      refine g1 ?_
      refine g1 ?_
      refine g1 ?_
      refine awp_seq ?_
      refine r1 T0_ok hP hm hN ?_
      refine g1 ?_
      refine g1 ?_
      refine awp_cond rfl (fun hc2 => ?_) (fun hc2 => ?_)
      · skip
        have e1 := freeF_yes (tk := tkI p xs) (k := i) hc2
        refine r1 T0_ok hP hm hN ?_
        refine g1 ?_
        refine g1 ?_
        refine g1 ?_
        refine ga1 ?_
        refine g1 ?_
        refine r1 T0_ok hP hm hN ?_
        refine g1 ?_
        refine g1 ?_
        refine ⟨p.toNat - (i + 1), _, by omega, (by rw [e1]; first | exact weak_sl (sub_cons rfl (sub_cons rfl (sub_cons rfl (sub_cons rfl (sub_nil))))) | (rw [i64s_app]; refine Weak.trans (weak_drop 3) ?_; simp +decide only [dh_nrm, kl_nrm, kc_bools, mp_nrm, ↓reduceIte]; exact Weak.trans (weak_nx (nx' := 3) (by omega) (by rfl)) (weak_sl (sub_cons rfl (sub_cons rfl (sub_cons rfl (sub_cons rfl (sub_nil)))))))), i + 1, by omega, rfl, rfl⟩
      · skip
        have e1 := freeF_no (tk := tkI p xs) (k := i) hc2
        refine awp_skip ?_
        refine r1 T0_ok hP hm hN ?_
        refine g1 ?_
        refine g1 ?_
        refine ⟨p.toNat - (i + 1), _, by omega, (by rw [e1]; first | exact weak_sl (sub_cons rfl (sub_cons rfl (sub_cons rfl (sub_cons rfl (sub_nil))))) | (rw [i64s_app]; refine Weak.trans (weak_drop 3) ?_; simp +decide only [dh_nrm, kl_nrm, kc_bools, mp_nrm, ↓reduceIte]; exact Weak.trans (weak_nx (nx' := 3) (by omega) (by rfl)) (weak_sl (sub_cons rfl (sub_cons rfl (sub_cons rfl (sub_cons rfl (sub_nil)))))))), i + 1, by omega, rfl, rfl⟩
    · skip
      have heqi : i = p.toNat := by simp at hc1; omega
      subst heqi
      refine awp_exit ?_
      repeat refine thenA_exit ?_
      refine blockA_hit ?_
      refine awp_seq ?_
      refine r1 T0_ok hP hm hN ?_
      refine g1 ?_
      refine g1 ?_
      refine g1 ?_
      refine awp_ret ?_
      refine fin_mk [2] rfl rfl ?_ (by simp only [hr]; exact objs_cons rfl rfl rfl rfl rfl (.inl rfl) objs_nil) (by decide)
      show D.tup [.own 2, .val (.int .i64 (freeR (validR p xs) (freeF (tkI p xs) p.toNat)).2)] = _
      rw [hr]
      rfl
end Go.Proofs.Ytkccgfpeobpheaa.Abs
