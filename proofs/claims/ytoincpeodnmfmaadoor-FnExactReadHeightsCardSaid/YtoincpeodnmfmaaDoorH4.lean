import Derived.Test.YtoincpeodnmfmaaDoorH3
set_option linter.unusedVariables false
set_option linter.unusedSimpArgs false
namespace Go.Proofs.YtoincpeodnmfmaaDoor.Abs
open Go Go.RowKit
theorem view_eq (s : ByteArray) : ((i64s (fullH s)).drop (fromH s)).take (rhS s).2.1.length = i64s (rhS s).2.1 := by
  have key : rhS s = badH ∨ ((rhS s).2.2 = 0 ∧ (rhS s).2.1 = ((splP 32 s).map vlW).drop 3) := by
    rw [rhS, readHS, ← map_vl]
    split
    · exact .inl rfl
    split
    · exact .inl rfl
    split
    · exact .inr ⟨rfl, rfl⟩
    · exact .inl rfl
  rcases key with h | ⟨h1, h2⟩
  · rw [(fullH_bad h).1, (fullH_bad h).2, h]; rfl
  · rw [(fullH_ok h1).1, (fullH_ok h1).2, h2]
    exact drop_i64s _ _ (by simp)
theorem rhS_len (s : ByteArray) : (rhS s).2.1.length ≤ s.size + 1 := by
  have h := splP_len 32 s
  have h2 := splP_len2 32 s
  unfold rhS readHS
  (repeat' split) <;> simp [badH, numsOf] <;> omega
theorem rhI_S (s : ByteArray) : rhI s = rhS s := readH_same hVH _

def mkd_int (n : Nat) (k : Int) : List Int := (List.range n).map fun (j : Nat) => k + (j : Int)
def mix_int (xs : List Int) (k : Int) (i : Nat) : List Int := mkd_int i k ++ xs.drop i
theorem mkd_int_len (n : Nat) (k : Int) : (mkd_int n k).length = n := by simp [mkd_int]
theorem mkd_int_get {n : Nat} {k : Int} {j : Nat} (h : j < n) : (mkd_int n k).getD j 0 = k + (j : Int) := by simp [mkd_int, List.getD, h]
theorem mix_int_zero (xs : List Int) (k : Int) : mix_int xs k 0 = xs := by simp [mix_int, mkd_int]
theorem mix_int_all (xs : List Int) (k : Int) : mix_int xs k xs.length = mkd_int xs.length k := by simp [mix_int]
theorem mix_int_len (xs : List Int) (k : Int) {i : Nat} (h : i ≤ xs.length) : (mix_int xs k i).length = xs.length := by simp [mix_int, mkd_int]; omega
theorem mix_int_set (xs : List Int) (k : Int) {i : Nat} (h : i < xs.length) : (mix_int xs k i).set i (k + (i : Int)) = mix_int xs k (i + 1) := by
  have e : mkd_int (i + 1) k = mkd_int i k ++ [k + (i : Int)] := by simp [mkd_int, List.range_succ]
  unfold mix_int
  rw [e, List.set_append_right _ _ (by simp [mkd_int]), mkd_int_len, Nat.sub_self, List.drop_eq_getElem_cons h, List.set_cons_zero, List.append_assoc]
  rfl
noncomputable def heldR_int (xs : List Int) (k : Int) : Int := if ask (xs = mkd_int xs.length k) then k + xs.length else -1
theorem heldR_int_no {xs : List Int} {k : Int} {i : Nat} (hi : i < xs.length) (h : xs.getD i 0 ≠ k + (i : Int)) : heldR_int xs k = -1 := by
  unfold heldR_int
  rw [ask_false (fun e => h (by rw [e, mkd_int_get hi]))]
  rfl
theorem heldR_int_yes {xs : List Int} {k : Int} (h : ∀ i, i < xs.length → xs.getD i 0 = k + (i : Int)) : heldR_int xs k = k + xs.length := by
  unfold heldR_int
  rw [ask_true (list_ext' (d := 0) (mkd_int_len _ _).symm (fun j hj => by rw [h j hj, mkd_int_get hj]))]
  rfl
theorem heldR_int_mkd (n : Nat) (k : Int) : heldR_int (mkd_int n k) k = k + n := by
  rw [heldR_int_yes (fun i hi => by rw [mkd_int_len] at hi; exact mkd_int_get hi), mkd_int_len]

noncomputable abbrev s_L_markInt64S : Spec (List Int × Int) where
  args := fun x => [.own 0, .val (.int .i64 x.2)]
  pre := fun x => x.1.length ≤ 4611686018427387904 ∧ 0 ≤ x.2 ∧ x.2 + x.1.length ≤ 4611686018427387904
  obs := fun x => [⟨2, 1, false, i64s (x.1)⟩]
  out := fun x => [⟨2, 1, false, i64s (mkd_int x.1.length x.2)⟩]
  res := fun x => .val (.int .i64 (x.2 + x.1.length))

set_option maxRecDepth 20000 in
set_option maxHeartbeats 1000000 in
theorem ok_L_markInt64S : FnOk Pr 14 s_L_markInt64S := by
  refine fn_ok 2 1 T0_ok Go.Proofs.Tryd.func14 rfl (enters_of Go.Proofs.Tryd.func14 rfl rfl) (fun _ => rfl) (fun _ => rfl) (fun _ => rfl) ?_
  rintro ⟨xs, k⟩ ⟨hl, hk0, hk⟩ C hP hN hm hG
  change awp C _ _ ⟨[(0, .own 0), (1, .val (.int .i64 k))], [(0, ⟨2, 1, false, i64s (xs)⟩)], 1⟩
  simp only at hl hk0 hk
  refine awp_seq ?_
  refine r1 T0_ok hP hm hN ?_
  refine g1 ?_
  refine awp_seq ?_
  refine awp_seq ?_
  refine r1 T0_ok hP hm hN ?_
  refine g1 ?_
  refine awp_block ?_
  refine awp_loop (fun n st => ∃ i : Nat, i ≤ xs.length ∧ n = xs.length - i ∧ st = ⟨[(5, .val (.int .i64 (i : Nat))), (1, .val (.int .i64 (k + ((i : Nat) : Int)))), (0, .own 0)], [(0, ⟨2, 1, false, i64s (mix_int xs k i)⟩)], 1⟩) (xs.length) ⟨_, (by rw [mix_int_zero, show k + ((0 : Nat) : Int) = k by omega]; exact weak_sl (sub_cons rfl (sub_cons rfl (sub_cons rfl (sub_nil))))), 0, by omega, rfl, rfl⟩ ?_
  rintro n st ⟨i, hii, hni, rfl⟩
  have hml := mix_int_len xs k hii
  refine awp_seq ?_
  refine awp_seq ?_
  refine r1 T0_ok hP hm hN ?_
  refine g1 ?_
  refine g1 ?_
  refine g1 ?_
  refine g1 ?_
  refine awp_cond rfl (fun hc0 => ?_) (fun hc0 => ?_)
  · skip
    have hlti : i < xs.length := by simp [hml] at hc0; exact hc0
    refine awp_skip ?_
    refine awp_seq ?_
    refine awp_block ?_
    refine awp_seq ?_
    refine r1 T0_ok hP hm hN ?_
    refine g1 ?_
    refine g1 ?_
    refine g1 ?_
    refine g1 ?_
    refine g1 ?_
    refine r1 T0_ok hP hm hN ?_
    refine g1 ?_
    refine g1 ?_
    refine g1 ?_
    refine r1 T0_ok hP hm hN ?_
    refine g1 ?_
    refine g1 ?_
    refine g1 ?_
    refine ⟨xs.length - (i + 1), _, by omega, (by rw [← mix_int_set xs k hlti, i64s_set', show k + ((i + 1 : Nat) : Int) = k + (i : Int) + 1 by omega]; exact weak_sl (sub_cons rfl (sub_cons rfl (sub_cons rfl (sub_nil))))), i + 1, by omega, rfl, rfl⟩
  · skip
    have hgei : ¬ i < xs.length := by simp [hml] at hc0; omega
    have heqi : i = xs.length := by omega
    rw [heqi, mix_int_all]
    refine awp_exit ?_
    repeat refine thenA_exit ?_
    refine blockA_hit ?_
    refine awp_seq ?_
    refine r1 T0_ok hP hm hN ?_
    refine g1 ?_
    refine g1 ?_
    refine awp_ret ?_
    refine fin_mk [] rfl rfl ?_ (objs_cons rfl rfl rfl rfl rfl (.inl rfl) objs_nil) (by decide)
    rfl

noncomputable abbrev s_L_heldInt64S : Spec (List Int × Int) where
  args := fun x => [.sl 1 (i64s x.1), .val (.int .i64 x.2)]
  pre := fun x => x.1.length ≤ 4611686018427387904 ∧ 0 ≤ x.2 ∧ x.2 + x.1.length ≤ 4611686018427387904
  res := fun x => .val (.int .i64 (heldR_int x.1 x.2))

set_option maxRecDepth 20000 in
set_option maxHeartbeats 1000000 in
theorem ok_L_heldInt64S : FnOk Pr 15 s_L_heldInt64S := by
  refine fn_ok 2 0 T0_ok Go.Proofs.Tryd.func15 rfl (enters_of Go.Proofs.Tryd.func15 rfl rfl) (fun _ => rfl) (fun _ => rfl) (fun _ => rfl) ?_
  rintro ⟨xs, k⟩ ⟨hl, hk0, hk⟩ C hP hN hm hG
  change awp C _ _ ⟨[(0, .sl 1 (i64s xs)), (1, .val (.int .i64 k))], [], 0⟩
  simp only at hl hk0 hk
  refine awp_seq ?_
  refine r1 T0_ok hP hm hN ?_
  refine g1 ?_
  refine awp_seq ?_
  refine awp_seq ?_
  refine r1 T0_ok hP hm hN ?_
  refine g1 ?_
  refine awp_block ?_
  refine awp_loop (fun n st => ∃ i : Nat, i ≤ xs.length ∧ (∀ j, j < i → xs.getD j 0 = k + (j : Int)) ∧ n = xs.length - i ∧ st = ⟨[(5, .val (.int .i64 (i : Nat))), (1, .val (.int .i64 (k + ((i : Nat) : Int)))), (0, .sl 1 (i64s xs))], [], 0⟩) (xs.length) ⟨_, (by rw [show k + ((0 : Nat) : Int) = k by omega]; exact weak_sl (sub_cons rfl (sub_cons rfl (sub_cons rfl (sub_nil))))), 0, by omega, fun j h => by omega, rfl, rfl⟩ ?_
  rintro n st ⟨i, hii, hall, hni, rfl⟩
  refine awp_seq ?_
  refine awp_seq ?_
  refine r1 T0_ok hP hm hN ?_
  refine g1 ?_
  refine g1 ?_
  refine g1 ?_
  refine g1 ?_
  refine awp_cond rfl (fun hc0 => ?_) (fun hc0 => ?_)
  · skip
    have hlti : i < xs.length := by simpa using hc0
    refine awp_skip ?_
    refine awp_seq ?_
    refine awp_block ?_
    refine awp_seq ?_
    refine awp_seq ?_
    refine r1 T0_ok hP hm hN ?_
    refine g1 ?_
    refine g1 ?_
    refine g1 ?_
    refine g1 ?_
    refine g1 ?_
    refine g1 ?_
    refine awp_cond rfl (fun hc1 => ?_) (fun hc1 => ?_)
    · skip
      refine awp_seq ?_
      refine r1 T0_ok hP hm hN ?_
      refine g1 ?_
      refine awp_ret ?_
      refine fin_mk [] rfl rfl ?_ trivial (by decide)
      show D.val (.int .i64 (heldR_int xs k)) = D.val (.int .i64 (-1))
      rw [heldR_int_no hlti (fun e => by rw [e] at hc1; simp at hc1)]
    · skip
      refine awp_skip ?_
      refine r1 T0_ok hP hm hN ?_
      refine g1 ?_
      refine g1 ?_
      refine g1 ?_
      refine r1 T0_ok hP hm hN ?_
      refine g1 ?_
      refine g1 ?_
      refine g1 ?_
      refine ⟨xs.length - (i + 1), _, by omega, (by rw [show k + ((i + 1 : Nat) : Int) = k + (i : Int) + 1 by omega]; exact weak_sl (sub_cons rfl (sub_cons rfl (sub_cons rfl (sub_nil))))), i + 1, by omega, upto_step hall (by have h := hc1; simp only [bne_eq_false_iff_eq] at h; exact h), rfl, rfl⟩
  · skip
    have hgei : ¬ i < xs.length := by simpa using hc0
    have heqi : i = xs.length := by omega
    refine awp_exit ?_
    repeat refine thenA_exit ?_
    refine blockA_hit ?_
    refine awp_seq ?_
    refine r1 T0_ok hP hm hN ?_
    refine g1 ?_
    refine g1 ?_
    refine awp_ret ?_
    refine fin_mk [] rfl rfl ?_ trivial (by decide)
    show D.val (.int .i64 (heldR_int xs k)) = _
    rw [heldR_int_yes (fun j hj => hall j (by omega)), ← heqi]
    rfl

noncomputable abbrev s_L_eqPegs : Spec ((Int × Int × Int) × Int × Int × Int) where
  args := fun x => [pegs x.1, pegs x.2]
  res := fun x => .val (.bool ((x.1.1 == x.2.1 && x.1.2.1 == x.2.2.1) && x.1.2.2 == x.2.2.2))

set_option maxRecDepth 20000 in
set_option maxHeartbeats 1000000 in
theorem ok_L_eqPegs : FnOk Pr 12 s_L_eqPegs := by
  refine fn_ok 2 0 T0_ok Go.Proofs.Tryd.func12 rfl (enters_of Go.Proofs.Tryd.func12 rfl rfl) (fun _ => rfl) (fun _ => rfl) (fun _ => rfl) ?_
  rintro ⟨⟨a, b, c⟩, a2, b2, c2⟩ - C hP hN hm hG
  change awp C _ _ ⟨[(0, .val (.agg #[.int .i16 a, .int .i16 b, .int .i16 c])), (1, .val (.agg #[.int .i16 a2, .int .i16 b2, .int .i16 c2]))], [], 0⟩
  refine awp_seq ?_
  refine r1 T0_ok hP hm hN ?_
  refine g1 ?_
  refine g1 ?_
  refine g1 ?_
  refine awp_seq ?_
  refine awp_seq ?_
  refine r1 T0_ok hP hm hN ?_
  refine g1 ?_
  refine g1 ?_
  refine g1 ?_
  refine g1 ?_
  refine g1 ?_
  refine awp_cond rfl (fun hc0 => ?_) (fun hc0 => ?_)
  · skip
    refine awp_seq ?_
    refine r1 T0_ok hP hm hN ?_
    refine g1 ?_
    refine awp_ret ?_
    refine fin_mk [] rfl rfl ?_ trivial (by decide)
    show D.val (.bool ((a == a2 && b == b2) && c == c2)) = D.val (.bool false)
    simp at hc0
    simp [hc0]
  · skip
    refine awp_skip ?_
    refine awp_seq ?_
    refine awp_seq ?_
    refine r1 T0_ok hP hm hN ?_
    refine g1 ?_
    refine g1 ?_
    refine g1 ?_
    refine g1 ?_
    refine g1 ?_
    refine awp_cond rfl (fun hc1 => ?_) (fun hc1 => ?_)
    · skip
      refine awp_seq ?_
      refine r1 T0_ok hP hm hN ?_
      refine g1 ?_
      refine awp_ret ?_
      refine fin_mk [] rfl rfl ?_ trivial (by decide)
      show D.val (.bool ((a == a2 && b == b2) && c == c2)) = D.val (.bool false)
      simp at hc1
      simp [hc1]
    · skip
      refine awp_skip ?_
      refine awp_seq ?_
      refine awp_seq ?_
      refine r1 T0_ok hP hm hN ?_
      refine g1 ?_
      refine g1 ?_
      refine g1 ?_
      refine g1 ?_
      refine g1 ?_
      refine awp_cond rfl (fun hc2 => ?_) (fun hc2 => ?_)
      · skip
        refine awp_seq ?_
        refine r1 T0_ok hP hm hN ?_
        refine g1 ?_
        refine awp_ret ?_
        refine fin_mk [] rfl rfl ?_ trivial (by decide)
        show D.val (.bool ((a == a2 && b == b2) && c == c2)) = D.val (.bool false)
        simp at hc2
        simp [hc2]
      · skip
        refine awp_skip ?_
        refine awp_seq ?_
        refine r1 T0_ok hP hm hN ?_
        refine g1 ?_
        refine awp_ret ?_
        refine fin_mk [] rfl rfl ?_ trivial (by decide)
        show D.val (.bool ((a == a2 && b == b2) && c == c2)) = D.val (.bool true)
        simp at hc0 hc1 hc2
        simp [hc0, hc1, hc2]

noncomputable abbrev s_L_FnExactReadHeights : Spec (ByteArray) where
  args := fun x => [.val (.string x)]
  pre := fun x => (x.size ≤ maxLen)
  res := fun x => .val (.bool true)

set_option maxRecDepth 20000 in
set_option maxHeartbeats 8000000 in
theorem ok_L_FnExactReadHeights : FnOk Pr 4 s_L_FnExactReadHeights := by
  refine fn_ok 1 0 T0_ok Go.Proofs.Tryd.func4 rfl (enters_of Go.Proofs.Tryd.func4 rfl rfl) (fun _ => rfl) (fun _ => rfl) (fun _ => rfl) ?_
  rintro s hl0 C hP hN hm hG
  change awp C _ _ ⟨[(0, .val (.string s))], [], 0⟩
  have hn1 := rhS_len s
  have hn2 : (rhI s).2.1.length ≤ s.size + 1 := by rw [rhI_S]; exact hn1
  refine awp_seq ?_
  refine r1 T0_ok hP hm hN ?_
  refine g1 ?_
  refine awp_seq ?_
  refine awp_seq ?_
  refine r1 T0_ok hP hm hN ?_
  refine g1 ?_
  refine g1 ?_
  refine g1 ?_
  refine awp_cond rfl (fun hc0 => ?_) (fun hc0 => ?_)
  · skip
    refine awp_seq ?_
    refine r1 T0_ok hP hm hN ?_
    refine g1 ?_
    refine awp_ret ?_
    refine fin_mk [] rfl rfl ?_ trivial (by decide)
    rfl
  · skip
    have hl : s.size ≤ 1048576 := by simp at hc0; omega
    refine awp_skip ?_
    refine awp_seq ?_
    refine r1 T0_ok hP hm hN ?_
    refine g1 ?_
    refine gc1 ?_ (call1 ok_S_ReadHeights s [] (hpre := by (try dsimp only); exact hl) (hfo := by intro o ho; simp only [List.nil_append, List.mem_singleton] at ho; subst ho; exact flat_i64s _ _ _ _))
    refine g1 ?_
    refine g1 ?_
    refine g1 ?_
    refine g1 ?_
    refine g1 ?_
    refine g1 ?_
    refine g1 ?_
    refine g1 ?_
    refine awp_seq ?_
    refine r1 T0_ok hP hm hN ?_
    refine g1 ?_
    refine gc1 ?_ (call1 ok_I_ReadHeights s [] (hpre := by (try dsimp only); exact hl) (hfo := by intro o ho; simp only [List.nil_append, List.mem_singleton] at ho; subst ho; exact flat_i64s _ _ _ _))
    refine g1 ?_
    refine g1 ?_
    refine g1 ?_
    refine g1 ?_
    refine g1 ?_
    refine g1 ?_
    refine g1 ?_
    refine g1 ?_
    refine awp_seq ?_
    refine awp_seq ?_
    refine r1 T0_ok hP hm hN ?_
    refine g1 ?_
    refine g1 ?_
    refine gc1 ?_ (call1 ok_L_eqPegs ((_, _, _), _, _, _) [])
    refine g1 ?_
    refine g1 ?_
    refine gg1 ?_
    refine gg1 ?_
    refine ggc1 ?_ (hs := by intro hb; simp +decide only [hb, gd_tt, gd_ff, beq_self_eq_true, Bool.true_and, beq_true]; exact ⟨rfl, _, call1 ok_L_eqInt64S ((rhI s).2.1, (rhS s).2.1) [] (hargs := (by exact args_cons (arga_slown (by simp) rfl rfl rfl rfl) (args_cons ⟨by simp, _, rfl, rfl, rfl, view_eq s⟩ args_nil))) (hpre := by (try dsimp only); omega), rfl, rfl, rfl⟩)
    refine gg1 ?_
    refine g1 ?_
    refine g1 ?_
    refine gg1 ?_
    refine gg1 ?_
    refine gg1 ?_
    refine g1 ?_
    refine awp_cond rfl (fun hc1 => ?_) (fun hc1 => ?_)
    · skip
      exfalso; first | (simp [ask] at hc1; done) | (simp [ask] at hc1; omega) | (rw [rhI_S] at hc1; simp [ask] at hc1; done) | (rw [rhI_S] at hc1; simp [ask] at hc1; omega)
    · skip
      refine awp_skip ?_
      refine awp_seq ?_
      refine r1 T0_ok hP hm hN ?_
      refine g1 ?_
      refine awp_seq ?_
      refine r1 T0_ok hP hm hN ?_
      refine g1 ?_
      refine g1 ?_
      refine gc1 ?_ (call1 ok_L_markInt64S ((rhI s).2.1, _) [2] (hpre := by (try dsimp only); exact ⟨by omega, by omega, by omega⟩))
      refine g1 ?_
      refine awp_seq ?_
      refine r1 T0_ok hP hm hN ?_
      refine g1 ?_
      refine awp_seq ?_
      refine r1 T0_ok hP hm hN ?_
      refine g1 ?_
      refine g1 ?_
      refine gc1 ?_ (call1 ok_L_heldInt64S (mkd_int (rhI s).2.1.length 1, _) [] (hpre := by (try dsimp only); exact ⟨by rw [mkd_int_len]; omega, by omega, by rw [mkd_int_len]; omega⟩)) (hst := by simp +decide (disch := omega) only [nrm, lk_nrm, dc_nrm, mk_nrm, mf_nrm, ti_nrm, ls_nrm, mp_nrm, nb_nrm, hset, pick_and, pick_or, ↓reduceIte, Nat.reduceAdd, wI64, wI32, wI16, wI8, wU8, List.length_map, Int.toNat_natCast, heldR_int_mkd]; rfl)
      refine g1 ?_
      refine awp_seq ?_
      refine awp_seq ?_
      refine r1 T0_ok hP hm hN ?_
      refine g1 ?_
      refine g1 ?_
      refine awp_cond rfl (fun hc2 => ?_) (fun hc2 => ?_)
      · skip
        exfalso; first | (simp [ask] at hc2; done) | (simp [ask] at hc2; omega) | (rw [rhI_S] at hc2; simp [ask] at hc2; done) | (rw [rhI_S] at hc2; simp [ask] at hc2; omega)
      · skip
        refine awp_skip ?_
        refine awp_seq ?_
        refine awp_seq ?_
        refine r1 T0_ok hP hm hN ?_
        refine g1 ?_
        refine g1 ?_
        refine g1 ?_
        refine awp_cond rfl (fun hc3 => ?_) (fun hc3 => ?_)
        · skip
          exfalso; first | (simp [ask] at hc3; done) | (simp [ask] at hc3; omega) | (rw [rhI_S] at hc3; simp [ask] at hc3; done) | (rw [rhI_S] at hc3; simp [ask] at hc3; omega)
        · skip
          refine awp_skip ?_
          refine awp_seq ?_
          refine r1 T0_ok hP hm hN ?_
          refine g1 ?_
          refine gc1 ?_ (call1 ok_I_ReadHeights s [] (hpre := by (try dsimp only); exact hl) (hfo := by intro o ho; simp only [List.nil_append, List.mem_singleton] at ho; subst ho; exact flat_i64s _ _ _ _))
          refine g1 ?_
          refine g1 ?_
          refine g1 ?_
          refine g1 ?_
          refine g1 ?_
          refine g1 ?_
          refine g1 ?_
          refine g1 ?_
          refine awp_seq ?_
          refine awp_seq ?_
          refine r1 T0_ok hP hm hN ?_
          refine g1 ?_
          refine g1 ?_
          refine gc1 ?_ (call1 ok_L_eqPegs ((_, _, _), _, _, _) [])
          refine g1 ?_
          refine g1 ?_
          refine gg1 ?_
          refine gg1 ?_
          refine ggc1 ?_ (hs := by intro hb; simp +decide only [hb, gd_tt, gd_ff, beq_self_eq_true, Bool.true_and, beq_true]; exact ⟨rfl, _, call1 ok_L_eqInt64S ((rhI s).2.1, (rhS s).2.1) [] (hargs := (by exact args_cons (arga_slown (by simp) rfl rfl rfl rfl) (args_cons ⟨by simp, _, rfl, rfl, rfl, view_eq s⟩ args_nil))) (hpre := by (try dsimp only); omega), rfl, rfl, rfl⟩)
          refine gg1 ?_
          refine g1 ?_
          refine g1 ?_
          refine gg1 ?_
          refine gg1 ?_
          refine gg1 ?_
          refine g1 ?_
          refine awp_cond rfl (fun hc4 => ?_) (fun hc4 => ?_)
          · skip
            exfalso; first | (simp [ask] at hc4; done) | (simp [ask] at hc4; omega) | (rw [rhI_S] at hc4; simp [ask] at hc4; done) | (rw [rhI_S] at hc4; simp [ask] at hc4; omega)
          · skip
            refine awp_skip ?_
            refine awp_seq ?_
            refine r1 T0_ok hP hm hN ?_
            refine g1 ?_
            refine awp_seq ?_
            refine r1 T0_ok hP hm hN ?_
            refine g1 ?_
            refine g1 ?_
            refine gc1 ?_ (call1 ok_L_heldInt64S (mkd_int (rhI s).2.1.length 1, _) [] (hpre := by (try dsimp only); exact ⟨by rw [mkd_int_len]; omega, by omega, by rw [mkd_int_len]; omega⟩)) (hst := by simp +decide (disch := omega) only [nrm, lk_nrm, dc_nrm, mk_nrm, mf_nrm, ti_nrm, ls_nrm, mp_nrm, nb_nrm, hset, pick_and, pick_or, ↓reduceIte, Nat.reduceAdd, wI64, wI32, wI16, wI8, wU8, List.length_map, Int.toNat_natCast, heldR_int_mkd]; rfl)
            refine g1 ?_
            refine awp_seq ?_
            refine awp_seq ?_
            refine r1 T0_ok hP hm hN ?_
            refine g1 ?_
            refine g1 ?_
            refine awp_cond rfl (fun hc5 => ?_) (fun hc5 => ?_)
            · skip
              exfalso; first | (simp [ask] at hc5; done) | (simp [ask] at hc5; omega) | (rw [rhI_S] at hc5; simp [ask] at hc5; done) | (rw [rhI_S] at hc5; simp [ask] at hc5; omega)
            · skip
              refine awp_skip ?_
              refine awp_seq ?_
              refine awp_seq ?_
              refine r1 T0_ok hP hm hN ?_
              refine g1 ?_
              refine g1 ?_
              refine g1 ?_
              refine awp_cond rfl (fun hc6 => ?_) (fun hc6 => ?_)
              · skip
                exfalso; first | (simp [ask] at hc6; done) | (simp [ask] at hc6; omega) | (rw [rhI_S] at hc6; simp [ask] at hc6; done) | (rw [rhI_S] at hc6; simp [ask] at hc6; omega)
              · skip
                refine awp_skip ?_
                refine awp_seq ?_
                refine r1 T0_ok hP hm hN ?_
                refine g1 ?_
                refine awp_ret ?_
                refine fin_mk [] rfl rfl ?_ trivial (by decide)
                rfl
end Go.Proofs.YtoincpeodnmfmaaDoor.Abs
