import Derived.Test.YtpdkhlpmiblflaaGreatX3s
set_option linter.unusedVariables false
set_option linter.unusedSimpArgs false
namespace Go.Proofs.YtpdkhlpmiblflaaGreat.Abs
open Go Go.RowKit
theorem find_first {α : Type} {L : List α} {p : α → Bool} {d : α} {i : Nat} (hi : i < L.length) (hno : ∀ b ∈ L.take i, p b = false) (hb : p (L.getD i d) = true) : L.find? p = some (L.getD i d) := by
  have e : L.getD i d = L[i] := by simp [List.getD, hi]
  rw [e] at hb ⊢
  have he : L = L.take i ++ L[i] :: L.drop (i + 1) := by rw [← List.drop_eq_getElem_cons hi, List.take_append_drop]
  generalize L[i] = y at hb he ⊢
  rw [he, List.find?_append, List.find?_eq_none.2 (fun b h => by rw [hno b h]; simp), List.find?_cons_of_pos hb]
  rfl
theorem take_all {α : Type} {L : List α} {Q : α → Prop} {d : α} {i : Nat} (hi : i < L.length) (hno : ∀ b ∈ L.take i, Q b) (hb : Q (L.getD i d)) : ∀ b ∈ L.take (i + 1), Q b := fun b h => by
  have e : L.getD i d = L[i] := by simp [List.getD, hi]
  rw [List.take_succ_eq_append_getElem hi, ← e] at h
  rcases List.mem_append.1 h with h' | h'
  · exact hno b h'
  · rw [List.mem_singleton.1 h']; exact hb
theorem wayX_suc2 {xs : List Bk} (h : xs.length ≤ 6) {m : Nat} (hmq : m < farX xs (ordN xs)) : wayX xs (m + 1) = ((wayX xs m).1 ++ [nrB xs.length (sortI (ordN xs)) (wayX xs m).2], mvN (wayX xs m).2 (nrB xs.length (sortI (ordN xs)) (wayX xs m).2)) := by
  have e := wayX_suc h hmq
  rw [ordN_len] at e
  exact e
theorem near_at2X {xs : List Bk} {x : Nd} {i : Nat} (hi : i < (blks xs.length).length) (hno : ∀ b ∈ (blks xs.length).take i, ¬ farX xs (mvN x b) < farX xs x) (hb : farX xs (mvN x ((blks xs.length).getD i (0, 0, 0))) < farX xs x) : nrB xs.length (sortI (ordN xs)) x = (blks xs.length).getD i (0, 0, 0) := by
  have h : nearB xs.length (sortI (ordN xs)) x = some ((blks xs.length).getD i (0, 0, 0)) := find_first hi (fun b h => decide_eq_false (by rw [← farX_def, ← farX_def]; exact hno b h)) (decide_eq_true (by rw [← farX_def, ← farX_def]; exact hb))
  rw [nrB, h]
  rfl
theorem take_noX {xs : List Bk} {x : Nd} {i : Nat} (hi : i < (blks xs.length).length) (hno : ∀ b ∈ (blks xs.length).take i, ¬ farX xs (mvN x b) < farX xs x) (hb : ¬ farX xs (mvN x ((blks xs.length).getD i (0, 0, 0))) < farX xs x) : ∀ b ∈ (blks xs.length).take (i + 1), ¬ farX xs (mvN x b) < farX xs x := take_all (Q := fun b => ¬ farX xs (mvN x b) < farX xs x) hi hno hb
theorem near_exX {xs : List Bk} (h6 : xs.length ≤ 6) {x : Nd} (hx : x.Perm (ordN xs)) (hd : 0 < farX xs x) (hno : ∀ b ∈ blks xs.length, ¬ farX xs (mvN x b) < farX xs x) : False := by
  rw [farX_def] at hd
  obtain ⟨b, e1, e2, e3⟩ := near_ex h6 (okN_sort (okN_ord h6)) (hx.trans (sortI_perm _).symm) hd
  refine hno b e2 ?_
  rw [farX_def, farX_def]
  omega
attribute [local irreducible] farX wayX dpt blks endB fM

noncomputable abbrev s_I_BlocksFor : Spec (List Bk) where
  args := fun xs => [.sl 8 (bks xs)]
  pre := fun xs => (∀ b ∈ xs, isBk b) ∧ xs.length ≤ 1048576
  new := fun xs => [⟨40, 3, false, brs (bfR xs).1⟩]
  res := fun xs => .tup [.own 0, .val (.int .i64 (bfR xs).2)]

set_option maxRecDepth 20000 in
set_option maxHeartbeats 16000000 in
theorem ok_I_BlocksFor : FnOk Pr 8 s_I_BlocksFor := by
 refine fn_ok 1 0 T0_ok Go.Proofs.Tryz.func8 rfl (enters_of Go.Proofs.Tryz.func8 rfl rfl) (fun _ => rfl) (fun _ => rfl) (fun _ => rfl) ?_
 rintro xs ⟨hv, hl⟩ C hP hN hm hG
 change awp C _ _ ⟨[(0, .sl 8 (bks xs))], [], 0⟩
 refine awp_seq ?_
 refine r1 T0_ok hP hm hN ?_
 iterate 2 refine g1 ?_
 refine awp_seq ?_
 refine awp_seq ?_
 refine r1 T0_ok hP hm hN ?_
 refine g1 ?_
 refine gc1 ?_ (call1 ok_I_blockCode _ [] (hpre := by (try dsimp only); exact ⟨hv, hl⟩))
 refine g1 ?_
 refine awp_seq ?_
 refine r1 T0_ok hP hm hN ?_
 iterate 2 refine g1 ?_
 refine awp_cond rfl (fun hc0 => ?_) (fun hc0 => ?_)
 ·
  have hr : bfR xs = ([], codeK xs) := by rw [bfR, if_pos hc0]
  refine awp_seq ?_
  refine r1 T0_ok hP hm hN ?_
  iterate 3 refine g1 ?_
  refine awp_weak (weak_nil 2 40 3 rfl) ?_
  refine awp_ret ?_
  refine fin_mk [0] rfl rfl ?_ (by first | (simp only [hfin]; exact objs_cons rfl rfl rfl rfl rfl (.inl rfl) objs_nil) | (simp only [hr]; exact objs_cons rfl rfl rfl rfl rfl (.inl rfl) objs_nil)) (by decide)
  show D.tup [_, .val (.int .i64 (bfR xs).2)] = _
  rw [hr]
  rfl
 ·
  have hr : bfR xs = ((wayX xs (farX xs (ordN xs))).1.map b3I, 0) := by rw [bfR, if_neg (by rw [hc0]; simp)]
  obtain ⟨h6, hk0⟩ := codeK_ok hc0
  have hol := ordN_len xs
  have hLb := len_blks h6
  have hfx0 := farX_le h6 (List.Perm.refl (ordN xs))
  refine awp_skip ?_
  refine awp_seq ?_
  refine r1 T0_ok hP hm hN ?_
  refine g1 ?_
  refine gc1 ?_ (call1 ok_I_ranks xs [] (hpre := by (try dsimp only); omega))
  refine g1 ?_
  refine awp_seq ?_
  refine r1 T0_ok hP hm hN ?_
  refine g1 ?_
  refine gc1 ?_ (call_dist h6 rfl rfl rfl)
  refine g1 ?_
  refine awp_seq ?_
  refine r1 T0_ok hP hm hN ?_
  refine g1 ?_
  refine awp_seq ?_
  refine awp_block ?_
  refine awp_weak (weak_nil 7 40 3 rfl) ?_
  refine awp_loop (fun n st => ∃ (m : Nat) (W : List B3 × Nd), W = wayX xs m ∧ m ≤ farX xs (ordN xs) ∧ n = farX xs (ordN xs) - m ∧ st = ⟨[(7, .own 0), (6, mpE2 xs), (5, .val (.string (strOfNums (tx W.2))))], [(0, ⟨40, 3, false, b3s W.1⟩)], 1⟩) (farX xs (ordN xs)) ⟨_, weak_sl (sub_cons rfl (sub_cons rfl (sub_cons rfl (sub_nil)))), 0, ([], ordN xs), (wayX_0 xs).symm, Nat.zero_le _, (Nat.sub_zero _).symm, rfl⟩ ?_
  rintro n st ⟨m, W, hW, hmq, hn, rfl⟩
  have hP1 := wayP h6 hmq
  rw [← hW] at hP1
  have hokw : okN xs.length W.2 := by rw [← ordN_len xs]; exact hP1.ok
  have hWl := hokw.1
  have hWt : (tx W.2).length = xs.length := by rw [tx_len, hWl]
  have hutx := isU_tx hokw
  have hlt := hP1.lt
  rw [← farX_eq] at hlt
  have hln := hP1.ln
  have hpo : W.2.Perm (ordN xs) := hP1.pm.trans (sortI_perm _)
  have hss : (strOfNums (tx W.2)).size ≤ maxLen := by rw [strOfNums_size, hWt]; simp only [maxLen]; omega
  refine awp_seq ?_
  refine awp_seq ?_
  refine r1 T0_ok hP hm hN ?_
  iterate 2 refine g1 ?_
  refine gc1 ?_ (oprel_lookup mpK mpT mpE mpZ rfl rfl rfl hss) (hst := by simp +decide (disch := omega) only [nrm, lk_nrm, dc_nrm, mk_nrm, mf_nrm, ti_nrm, ls_nrm, mp_nrm, nb_nrm, hset, pick_and, pick_or, ↓reduceIte, Nat.reduceAdd, fM_far h6 hpo]; rfl)
  refine g1 ?_
  refine awp_cond rfl (fun hc1 => ?_) (fun hc1 => ?_)
  ·
   have hgt : 0 < farX xs W.2 := by simp at hc1; omega
   refine awp_skip ?_
   refine awp_block ?_
   refine awp_seq ?_
   refine r1 T0_ok hP hm hN ?_
   refine g1 ?_
   refine g1 ?_ (hst := by simp +decide (disch := omega) only [nrm, lk_nrm, dc_nrm, mk_nrm, mf_nrm, ti_nrm, ls_nrm, mp_nrm, nb_nrm, hset, pick_and, pick_or, ↓reduceIte, Nat.reduceAdd, wI64, wI32, wI16, wI8, wU8, List.length_map, Int.toNat_natCast, xn1, xn2, strOfNums_size, hWt]; rfl)
   refine gc1 ?_ (call1 ok_I_blocks xs.length [] (hpre := by (try dsimp only); exact h6) (hfo := by exact fm_cons (flat_b3s _ _ _ _) fm_nil))
   iterate 2 refine g1 ?_
   refine awp_block ?_
   refine awp_loop (fun n st => ∃ i : Nat, i ≤ (blks xs.length).length ∧ (∀ b ∈ (blks xs.length).take i, ¬ farX xs (mvN W.2 b) < farX xs W.2) ∧ n = (blks xs.length).length - i ∧ st = ⟨[(29, .val (.int .i64 ((i : Nat) : Int))), (28, .val (.int .i64 (((blks xs.length).length : Nat) : Int))), (27, .own 1), (7, .own 0), (6, mpE2 xs), (5, .val (.string (strOfNums (tx W.2))))], [(1, ⟨40, 3, false, b3s (blks xs.length)⟩), (0, ⟨40, 3, false, b3s W.1⟩)], 2⟩) (blks xs.length).length ⟨_, weak_sl (sub_cons rfl (sub_cons rfl (sub_cons rfl (sub_cons rfl (sub_cons rfl (sub_cons rfl (sub_nil))))))), 0, Nat.zero_le _, (fun b hb => by cases hb), rfl, rfl⟩ ?_
   rintro n st ⟨i, hii, hno, hn2, rfl⟩
   refine awp_seq ?_
   refine r1 T0_ok hP hm hN ?_
   refine g1 ?_
   refine awp_seq ?_
   refine awp_cond rfl (fun hc2 => ?_) (fun hc2 => ?_)
   ·
    have hlti : i < (blks xs.length).length := by simpa using hc2
    obtain ⟨⟨f, c, t⟩, hbq⟩ : ∃ b, (blks xs.length).getD i (0, 0, 0) = b := ⟨_, rfl⟩
    have hbm : (f, c, t) ∈ blks xs.length := by rw [← hbq]; exact getD_mem' hlti
    have hgb : (b3s (blks xs.length))[i]? = some (b3D (f, c, t)) := by rw [b3s_get _ _ hlti, hbq]
    have hmb := bmN_blks hWl hbm
    have hmb1 : (bmN (tx W.2) ((f : Int), (c : Int), (t : Int))).1 = tx (mvN W.2 (f, c, t)) := by rw [hmb]
    have hmb2 : (bmN (tx W.2) ((f : Int), (c : Int), (t : Int))).2 = true := by rw [hmb]
    have hb3 := mem_blks.1 hbm
    have hbk : isBlk ((f : Int), (c : Int), (t : Int)) := ⟨(show isI16 ((f : Nat) : Int) from ⟨by omega, by omega⟩), (show isI16 ((c : Nat) : Int) from ⟨by omega, by omega⟩), (show isI16 ((t : Nat) : Int) from ⟨by omega, by omega⟩)⟩
    have hoknx : okN xs.length (mvN W.2 (f, c, t)) := okN_perm hokw (carried_perm _ _ _ _)
    have htl2 := tx_len (mvN W.2 (f, c, t))
    have hnx := hoknx.1
    have hss2 : (strOfNums (tx (mvN W.2 (f, c, t)))).size ≤ maxLen := by rw [strOfNums_size]; simp only [maxLen]; omega
    have hpo2 : (mvN W.2 (f, c, t)).Perm (ordN xs) := (carried_perm W.2 f c t).trans hpo
    refine awp_skip ?_
    refine awp_seq ?_
    refine awp_block ?_
    refine awp_seq ?_
    refine r1 T0_ok hP hm hN ?_
    iterate 4 refine g1 ?_
    refine awp_seq ?_
    refine r1 T0_ok hP hm hN ?_
    refine g1 ?_
    refine gc1 ?_ (oprel_s2b T0_ok rfl (tx W.2) rfl hutx (by omega) rfl rfl rfl)
    refine g1 ?_
    refine gc1 ?_ (call1 ok_I_blockMoved_byte (tx W.2, ((f : Int), (c : Int), (t : Int))) [] (hpre := by (try dsimp only); exact ⟨by omega, hbk⟩) (hfo := by exact fm_cons (flat_ints _ _ _ _ _) fm_nil)) (hst := by simp +decide (disch := omega) only [nrm, lk_nrm, dc_nrm, mk_nrm, mf_nrm, ti_nrm, ls_nrm, mp_nrm, nb_nrm, hset, pick_and, pick_or, ↓reduceIte, Nat.reduceAdd, wI64, wI32, wI16, wI8, wU8, List.length_map, Int.toNat_natCast, xn1, xn2, hmb1, hmb2]; rfl)
    iterate 5 refine g1 ?_
    refine awp_seq ?_
    refine r1 T0_ok hP hm hN ?_
    iterate 2 refine g1 ?_
    refine gc1 ?_ (oprel_b2sA T0_ok rfl (tx (mvN W.2 (f, c, t))) rfl rfl rfl rfl rfl rfl rfl)
    refine gc1 ?_ (oprel_lookup mpK mpT mpE mpZ rfl rfl rfl hss2) (hst := by simp +decide (disch := omega) only [nrm, lk_nrm, dc_nrm, mk_nrm, mf_nrm, ti_nrm, ls_nrm, mp_nrm, nb_nrm, hset, pick_and, pick_or, ↓reduceIte, Nat.reduceAdd, fM_far h6 hpo2]; rfl)
    iterate 2 refine g1 ?_
    refine gc1 ?_ (oprel_lookup mpK mpT mpE mpZ rfl rfl rfl hss) (hst := by simp +decide (disch := omega) only [nrm, lk_nrm, dc_nrm, mk_nrm, mf_nrm, ti_nrm, ls_nrm, mp_nrm, nb_nrm, hset, pick_and, pick_or, ↓reduceIte, Nat.reduceAdd, fM_far h6 hpo]; rfl)
    refine g1 ?_
    refine awp_cond rfl (fun hc3 => ?_) (fun hc3 => ?_)
    ·
     have hnr : nrB xs.length (sortI (ordN xs)) W.2 = (f, c, t) := (near_at2X hlti hno (by rw [hbq]; simp at hc3; exact hc3)).trans hbq
     refine awp_seq ?_
     refine r1 T0_ok hP hm hN ?_
     iterate 3 refine g1 ?_
     refine ga1 ?_
     refine g1 ?_
     refine awp_seq ?_
     refine r1 T0_ok hP hm hN ?_
     refine g1 ?_
     refine gc1 ?_ (oprel_b2sA T0_ok rfl (tx (mvN W.2 (f, c, t))) rfl rfl rfl rfl rfl rfl rfl)
     refine g1 ?_
     refine awp_exit ?_
     repeat refine thenA_exit ?_
     refine blockA_miss (by decide) ?_
     repeat refine thenA_exit ?_
     refine blockA_hit ?_
     have hWn : wayX xs (m + 1) = (W.1 ++ [(f, c, t)], mvN W.2 (f, c, t)) := by rw [wayX_suc2 h6 (by omega), ← hW, hnr]
     refine ⟨farX xs (ordN xs) - (m + 1), _, by omega, ?_, m + 1, (W.1 ++ [(f, c, t)], mvN W.2 (f, c, t)), hWn.symm, by omega, rfl, rfl⟩
     dsimp only
     rw [b3s_app]
     exact Weak.trans (weak_drop 1) (Weak.trans (weak_drop 2) (Weak.trans (weak_drop 3) (Weak.trans (weak_drop 4) (Weak.trans (weak_nx (nx' := 1) (by omega) (by rfl)) (weak_sl (sub_cons rfl (sub_cons rfl (sub_cons rfl (sub_nil)))))))))
    ·
     have hno2 := take_noX hlti hno (by rw [hbq]; simp at hc3; exact Nat.not_lt.2 hc3)
     refine awp_skip ?_
     refine r1 T0_ok hP hm hN ?_
     iterate 2 refine g1 ?_
     exact ⟨(blks xs.length).length - (i + 1), _, by omega, Weak.trans (weak_drop 2) (Weak.trans (weak_drop 3) (Weak.trans (weak_nx (nx' := 2) (by omega) (by rfl)) (weak_sl (sub_cons rfl (sub_cons rfl (sub_cons rfl (sub_cons rfl (sub_cons rfl (sub_cons rfl (sub_nil)))))))))), i + 1, by omega, hno2, rfl, rfl⟩
   ·
    exfalso
    have hgei : ¬ i < (blks xs.length).length := by simpa using hc2
    obtain rfl : i = (blks xs.length).length := by omega
    rw [List.take_length] at hno
    exact near_exX h6 hpo hgt hno
  ·
   have hz : farX xs W.2 = 0 := by simp at hc1; omega
   have hmf : m = farX xs (ordN xs) := by omega
   have hfin : brs (bfR xs).1 = b3s W.1 := by rw [hr, hW, hmf]; exact brs_b3I _
   refine awp_exit ?_
   repeat refine thenA_exit ?_
   refine blockA_hit ?_
   refine awp_seq ?_
   refine r1 T0_ok hP hm hN ?_
   iterate 3 refine g1 ?_
   refine awp_ret ?_
   refine fin_mk [0] rfl rfl ?_ (by first | (simp only [hfin]; exact objs_cons rfl rfl rfl rfl rfl (.inl rfl) objs_nil) | (simp only [hr]; exact objs_cons rfl rfl rfl rfl rfl (.inl rfl) objs_nil)) (by decide)
   show D.tup [_, .val (.int .i64 (bfR xs).2)] = _
   rw [hr]
   rfl
end Go.Proofs.YtpdkhlpmiblflaaGreat.Abs

