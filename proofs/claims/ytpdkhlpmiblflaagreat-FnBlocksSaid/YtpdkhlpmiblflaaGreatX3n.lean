import Derived.Test.YtpdkhlpmiblflaaGreatX3
set_option linter.unusedVariables false
set_option linter.unusedSimpArgs false
namespace Go.Proofs.YtpdkhlpmiblflaaGreat.Abs
open Go Go.RowKit
theorem pre_of_succ {α : Type} {g : Nat → List α} (h : ∀ i, ∃ r, g (i + 1) = g i ++ r) : ∀ {i j : Nat}, i ≤ j → g i <+: g j := fun {i j} hij => by
  induction j with
  | zero => rw [Nat.le_zero.1 hij]; exact List.prefix_refl _
  | succ j ih =>
    rcases Nat.eq_or_lt_of_le hij with e | h'
    · rw [e]; exact List.prefix_refl _
    · obtain ⟨r, hr⟩ := h j
      exact (ih (by omega)).trans ⟨r, hr.symm⟩
theorem pre3_pt (n f c : Nat) {t u : Nat} (h : t ≤ u) : pre3 n f c t <+: pre3 n f c u := pre_of_succ (g := pre3 n f c) (fun t => ⟨_, pre3_t n f c t⟩) h
theorem pre3_pc (n f : Nat) {c d : Nat} (h : c ≤ d) : pre3 n f c 0 <+: pre3 n f d 0 := pre_of_succ (g := fun c => pre3 n f c 0) (fun c => by
  obtain ⟨r, hr⟩ := pre3_pt n f c (Nat.zero_le (n - (c + 1) + 1))
  exact ⟨r, by rw [pre3_c]; exact hr.symm⟩) h
theorem pre3_pf (n : Nat) {f g : Nat} (h : f ≤ g) : pre3 n f 0 0 <+: pre3 n g 0 0 := pre_of_succ (g := fun f => pre3 n f 0 0) (fun f => by
  obtain ⟨r, hr⟩ := pre3_pc n f (Nat.zero_le (n - f))
  exact ⟨r, by rw [pre3_f]; exact hr.symm⟩) h
theorem blks_at {n f c t : Nat} (hf : f < n) (hc : c < n - f) (ht : t < n - (c + 1) + 1) : ∃ r, blks n = pre3 n f c t ++ (f, c + 1, t) :: r := by
  have h1 := pre3_pt n f c (show t + 1 ≤ n - (c + 1) + 1 by omega)
  rw [← pre3_c] at h1
  have h2 := h1.trans (pre3_pc n f (show c + 1 ≤ n - f by omega))
  rw [← pre3_f] at h2
  obtain ⟨r, hr⟩ := h2.trans (pre3_pf n (show f + 1 ≤ n by omega))
  rw [pre3_all, pre3_t] at hr
  exact ⟨r, by rw [← hr, List.append_assoc]; rfl⟩
def Far1 (n : Nat) (s0 x : Nd) (L : List B3) : Prop := ∀ b ∈ L, dpt (endB n s0) (mvN x b) + 1 ≠ dpt (endB n s0) x
theorem far1_snoc {n : Nat} {s0 x : Nd} {L : List B3} (h : Far1 n s0 x L) {b : B3} (hb : dpt (endB n s0) (mvN x b) + 1 ≠ dpt (endB n s0) x) : Far1 n s0 x (L ++ [b]) := fun c hc => by
  rcases List.mem_append.1 hc with h' | h'
  · exact h c h'
  · rw [List.mem_singleton.1 h']; exact hb
def nrB (n : Nat) (s0 x : Nd) : B3 := (nearB n s0 x).getD (0, 0, 0)
theorem near_at {n : Nat} {s0 : Nd} (hn : n ≤ 6) (h0 : okN n s0) {x : Nd} (hx : x.Perm s0) {L r : List B3} {b : B3} (he : blks n = L ++ b :: r) (h : Far1 n s0 x L) (hb : dpt (endB n s0) (mvN x b) + 1 = dpt (endB n s0) x) : nrB n s0 x = b := by
  have hm : ∀ c ∈ blks n, _ := fun c hc => near_eq hn h0 hx hc
  have hnone : L.find? (fun b => decide (dpt (endB n s0) (mvN x b) < dpt (endB n s0) x)) = none := by
    rw [List.find?_eq_none]
    intro c hc
    have := h c hc
    have e := hm c (by rw [he]; exact List.mem_append_left _ hc)
    simp only [decide_eq_true_eq]
    exact fun h' => this (e.2 h')
  have hb2 := (hm b (by rw [he]; simp)).1 hb
  rw [nrB, nearB, he, List.find?_append, hnone, List.find?_cons_of_pos (by simpa using hb2)]
  rfl
theorem near_no {n : Nat} {s0 : Nd} (hn : n ≤ 6) (h0 : okN n s0) {x : Nd} (hx : x.Perm s0) (hd : 0 < dpt (endB n s0) x) (h : Far1 n s0 x (blks n)) : False := by
  obtain ⟨b, _, h2, h3⟩ := near_ex hn h0 hx hd
  exact h b h2 h3
theorem far_cell2 {n : Nat} (hn : n ≤ 6) {s0 : Nd} (h0 : okN n s0) {x : Nd} (hx : x.Perm s0) : (farC n (endB n s0).2).getD (code6 x).toNat 0 = ((dpt (endB n s0) x : Nat) : Int) + 1 ∧ dpt (endB n s0) x ≤ 6 := by
  refine ⟨?_, Nat.le_trans (end_all hn h0 hx).2 hn⟩
  rw [farC_get hn _ (okN_perm h0 hx), end_some hn h0 hx]; rfl
abbrev b3A (b : B3) : D := blkD ((b.1 : Int), (b.2.1 : Int), (b.2.2 : Int))

noncomputable abbrev s_S_l03Nearer : Spec (Nat × Nd × Nd) where
  args := fun x => [.sl 1 (ints .i8 (farC x.1 (endB x.1 x.2.1).2)), .sl 1 (i64s x.2.2)]
  pre := fun x => x.1 ≤ 6 ∧ okN x.1 x.2.1 ∧ x.2.2.Perm x.2.1 ∧ 0 < dpt (endB x.1 x.2.1) x.2.2
  new := fun x => [⟨2, 1, false, i64s (mvN x.2.2 (nrB x.1 x.2.1 x.2.2))⟩]
  res := fun x => .tup [b3A (nrB x.1 x.2.1 x.2.2), .own 0]

set_option maxRecDepth 20000 in
set_option maxHeartbeats 16000000 in
theorem ok_S_l03Nearer : FnOk Pr 31 s_S_l03Nearer := by
 refine fn_ok 2 0 T0_ok Go.Proofs.Tryz.func31 rfl (enters_of Go.Proofs.Tryz.func31 rfl rfl) (fun _ => rfl) (fun _ => rfl) (fun _ => rfl) ?_
 rintro ⟨k0, s0, x⟩ ⟨hk6, h0, hx, hd0⟩ C hP hN hm hG
 change awp C _ _ ⟨[(0, .sl 1 (ints .i8 (farC k0 (endB k0 s0).2))), (1, .sl 1 (i64s x))], [], 0⟩
 simp only at hk6 h0 hx hd0
 have hokx : okN k0 x := okN_perm h0 hx
 have hxl : x.length = k0 := hokx.1
 have hcx := code6_lt hk6 hokx
 have hfl := farC_len k0 (endB k0 s0).2
 obtain ⟨hcell, hdx⟩ := far_cell2 hk6 h0 hx
 have xn1 := And.intro @tn1 (And.intro @natadd1 (And.intro @wI8' (And.intro @wI16' (hxl))))
 refine awp_seq ?_
 refine r1 T0_ok hP hm hN ?_
 iterate 2 refine g1 ?_
 refine awp_seq ?_
 refine r1 T0_ok hP hm hN ?_
 iterate 3 refine g1 ?_
 refine awp_seq ?_
 refine r1 T0_ok hP hm hN ?_
 iterate 2 refine g1 ?_
 refine gc1 ?_ (call1 ok_S_l03Code _ [] (hpre := by (try dsimp only); exact ⟨by first | (rw [hxl]; exact hokx) | exact hnok, by first | (rw [hxl]; exact hk6) | exact hn6⟩))
 refine g1 ?_ (hpre := by exact ⟨rfl, by omega, (by simp only [List.length_map]; omega)⟩)
 refine g1 ?_ (hst := by simp +decide (disch := omega) only [nrm, lk_nrm, dc_nrm, mk_nrm, mf_nrm, ti_nrm, ls_nrm, mp_nrm, nb_nrm, hset, pick_and, pick_or, ↓reduceIte, Nat.reduceAdd, wI64, wI32, wI16, wI8, wU8, List.length_map, Int.toNat_natCast, xn1, xn2, hcell]; rfl)
 refine g1 ?_
 refine awp_seq ?_
 refine awp_seq ?_
 refine r1 T0_ok hP hm hN ?_
 refine g1 ?_
 refine awp_block ?_
 refine awp_loop (fun n st => ∃ f : Nat, f ≤ k0 ∧ Far1 k0 s0 x (pre3 k0 f 0 0) ∧ n = k0 - f ∧ st = ⟨[(8, .val (.int .i64 ((f : Nat) : Int))), (7, .val (.int .i8 (((dpt (endB k0 s0) x : Nat) : Int) + 1))), (6, .val (.int .i64 ((k0 : Nat) : Int))), (5, .nil), (4, .ptr 0 0 0), (1, .sl 1 (i64s x)), (0, .sl 1 (ints .i8 (farC k0 (endB k0 s0).2)))], [(0, ⟨40, 3, true, [[.val (.int .i16 0), .val (.int .i16 0), .val (.int .i16 0)]]⟩)], 1⟩) (k0) ⟨_, weak_sl (sub_cons rfl (sub_cons rfl (sub_cons rfl (sub_cons rfl (sub_cons rfl (sub_cons rfl (sub_cons rfl (sub_nil)))))))), 0, Nat.zero_le _, (fun b hb => by rw [pre3_0] at hb; cases hb), rfl, rfl⟩ ?_
 rintro n st ⟨f, hif, hff, hnf, rfl⟩
 refine awp_seq ?_
 refine awp_seq ?_
 refine r1 T0_ok hP hm hN ?_
 iterate 3 refine g1 ?_
 refine awp_cond rfl (fun hc0 => ?_) (fun hc0 => ?_)
 ·
  have hltf : f < k0 := by simpa using hc0
  refine awp_skip ?_
  refine awp_seq ?_
  refine awp_block ?_
  refine awp_seq ?_
  refine r1 T0_ok hP hm hN ?_
  refine g1 ?_
  refine awp_block ?_
  refine awp_loop (fun n st => ∃ c : Nat, c ≤ (k0 - f) ∧ Far1 k0 s0 x (pre3 k0 f c 0) ∧ n = (k0 - f) - c ∧ st = ⟨[(9, .val (.int .i64 (((c + 1) : Nat) : Int))), (8, .val (.int .i64 ((f : Nat) : Int))), (7, .val (.int .i8 (((dpt (endB k0 s0) x : Nat) : Int) + 1))), (6, .val (.int .i64 ((k0 : Nat) : Int))), (5, .nil), (4, .ptr 0 0 0), (1, .sl 1 (i64s x)), (0, .sl 1 (ints .i8 (farC k0 (endB k0 s0).2)))], [(0, ⟨40, 3, true, [[.val (.int .i16 0), .val (.int .i16 0), .val (.int .i16 0)]]⟩)], 1⟩) ((k0 - f)) ⟨_, weak_sl (sub_cons rfl (sub_cons rfl (sub_cons rfl (sub_cons rfl (sub_cons rfl (sub_cons rfl (sub_cons rfl (sub_cons rfl (sub_nil))))))))), 0, Nat.zero_le _, hff, rfl, rfl⟩ ?_
  rintro n st ⟨c, hic, hfc, hnc, rfl⟩
  refine awp_seq ?_
  refine awp_seq ?_
  refine r1 T0_ok hP hm hN ?_
  iterate 5 refine g1 ?_
  refine awp_cond rfl (fun hc1 => ?_) (fun hc1 => ?_)
  ·
   have hltc : c < k0 - f := by simp at hc1; omega
   refine awp_skip ?_
   refine awp_seq ?_
   refine awp_block ?_
   refine awp_seq ?_
   refine r1 T0_ok hP hm hN ?_
   refine g1 ?_
   refine awp_block ?_
   refine awp_loop (fun n st => ∃ t : Nat, t ≤ (k0 - (c + 1) + 1) ∧ Far1 k0 s0 x (pre3 k0 f c t) ∧ n = (k0 - (c + 1) + 1) - t ∧ st = ⟨[(10, .val (.int .i64 ((t : Nat) : Int))), (9, .val (.int .i64 (((c + 1) : Nat) : Int))), (8, .val (.int .i64 ((f : Nat) : Int))), (7, .val (.int .i8 (((dpt (endB k0 s0) x : Nat) : Int) + 1))), (6, .val (.int .i64 ((k0 : Nat) : Int))), (5, .nil), (4, .ptr 0 0 0), (1, .sl 1 (i64s x)), (0, .sl 1 (ints .i8 (farC k0 (endB k0 s0).2)))], [(0, ⟨40, 3, true, [[.val (.int .i16 0), .val (.int .i16 0), .val (.int .i16 0)]]⟩)], 1⟩) ((k0 - (c + 1) + 1)) ⟨_, weak_sl (sub_cons rfl (sub_cons rfl (sub_cons rfl (sub_cons rfl (sub_cons rfl (sub_cons rfl (sub_cons rfl (sub_cons rfl (sub_cons rfl (sub_nil)))))))))), 0, Nat.zero_le _, hfc, rfl, rfl⟩ ?_
   rintro n st ⟨t, hit, hft, hnt, rfl⟩
   refine awp_seq ?_
   refine awp_seq ?_
   refine r1 T0_ok hP hm hN ?_
   iterate 5 refine g1 ?_
   refine awp_cond rfl (fun hc2 => ?_) (fun hc2 => ?_)
   ·
    have hltt : t < k0 - (c + 1) + 1 := by simp at hc2; omega
    have hxn : (mvN x (f, c + 1, t)).Perm s0 := mvN_ok hk6 h0 hx _
    have hoknx : okN k0 (mvN x (f, c + 1, t)) := okN_perm h0 hxn
    have hnxl : (carried x f (c + 1) t).length = k0 := hoknx.1
    have hnok : okN (carried x f (c + 1) t).length (carried x f (c + 1) t) := by rw [hnxl]; exact hoknx
    have hn6 : (carried x f (c + 1) t).length ≤ 6 := by rw [hnxl]; exact hk6
    have hcn : 0 ≤ code6 (carried x f (c + 1) t) ∧ code6 (carried x f (c + 1) t) < 46656 := code6_lt hk6 hoknx
    obtain ⟨hcell2', hdn⟩ := far_cell2 hk6 h0 hxn
    have hcell2 : (farC k0 (endB k0 s0).2).getD (code6 (carried x f (c + 1) t)).toNat 0 = ((dpt (endB k0 s0) (mvN x (f, c + 1, t)) : Nat) : Int) + 1 := hcell2'
    refine awp_skip ?_
    refine awp_seq ?_
    refine awp_block ?_
    refine awp_seq ?_
    refine r1 T0_ok hP hm hN ?_
    iterate 4 refine g1 ?_
    refine gc1 ?_ (call1 ok_S_l03Shift (x, f, c + 1, t) [] (hpre := by (try dsimp only); exact ⟨by omega, by omega, by omega⟩) (hfo := by exact fm_cons (flat_i64s _ _ _ _) fm_nil))
    refine g1 ?_
    refine awp_seq ?_
    refine r1 T0_ok hP hm hN ?_
    iterate 2 refine g1 ?_
    refine gc1 ?_ (call1 ok_S_l03Code _ [] (hpre := by (try dsimp only); exact ⟨by first | (rw [hxl]; exact hokx) | exact hnok, by first | (rw [hxl]; exact hk6) | exact hn6⟩))
    refine g1 ?_ (hpre := by exact ⟨rfl, by omega, (by simp only [List.length_map]; omega)⟩)
    refine g1 ?_ (hst := by simp +decide (disch := omega) only [nrm, lk_nrm, dc_nrm, mk_nrm, mf_nrm, ti_nrm, ls_nrm, mp_nrm, nb_nrm, hset, pick_and, pick_or, ↓reduceIte, Nat.reduceAdd, wI64, wI32, wI16, wI8, wU8, List.length_map, Int.toNat_natCast, xn1, xn2, hcell2]; rfl)
    iterate 3 refine g1 ?_
    refine awp_cond rfl (fun hc3 => ?_) (fun hc3 => ?_)
    ·
     have hnr : nrB k0 s0 x = (f, c + 1, t) := by
       obtain ⟨r, hr⟩ := blks_at hltf hltc hltt
       exact near_at hk6 h0 hx hr hft (by simp at hc3; omega)
     refine awp_seq ?_
     refine r1 T0_ok hP hm hN ?_
     iterate 8 refine g1 ?_
     refine g1 ?_ (hpre := by exact ⟨rfl, rfl, (fun h => by cases h), Nat.le_refl 3, .inl rfl⟩)
     refine g1 ?_
     refine awp_ret ?_
     refine fin_mk [1] rfl rfl ?_ (by simp only [hnr]; exact objs_cons rfl rfl rfl rfl rfl (.inl rfl) objs_nil) (by decide)
     show D.tup [b3A (nrB k0 s0 x), _] = _
     rw [hnr]
     rfl
    ·
     have hnear : dpt (endB k0 s0) (mvN x (f, c + 1, t)) + 1 ≠ dpt (endB k0 s0) x := by simp at hc3; omega
     refine awp_skip ?_
     refine r1 T0_ok hP hm hN ?_
     iterate 3 refine g1 ?_
     exact ⟨k0 - (c + 1) + 1 - (t + 1), _, by omega, Weak.trans (weak_drop 1) (Weak.trans (weak_nx (nx' := 1) (by omega) (by rfl)) (weak_sl (sub_cons rfl (sub_cons rfl (sub_cons rfl (sub_cons rfl (sub_cons rfl (sub_cons rfl (sub_cons rfl (sub_cons rfl (sub_cons rfl (sub_nil)))))))))))), t + 1, by omega, by rw [pre3_t]; exact far1_snoc hft hnear, rfl, rfl⟩
   ·
    have heqt : t = k0 - (c + 1) + 1 := by simp at hc2; omega
    refine awp_exit ?_
    repeat refine thenA_exit ?_
    refine blockA_hit ?_
    refine r1 T0_ok hP hm hN ?_
    iterate 3 refine g1 ?_
    refine ⟨k0 - f - (c + 1), _, by omega, weak_sl (sub_cons rfl (sub_cons rfl (sub_cons rfl (sub_cons rfl (sub_cons rfl (sub_cons rfl (sub_cons rfl (sub_cons rfl (sub_nil))))))))), c + 1, by omega, by rw [pre3_c, ← heqt]; exact hft, rfl, rfl⟩
  ·
   have heqc : c = k0 - f := by simp at hc1; omega
   refine awp_exit ?_
   repeat refine thenA_exit ?_
   refine blockA_hit ?_
   refine r1 T0_ok hP hm hN ?_
   iterate 3 refine g1 ?_
   refine ⟨k0 - (f + 1), _, by omega, weak_sl (sub_cons rfl (sub_cons rfl (sub_cons rfl (sub_cons rfl (sub_cons rfl (sub_cons rfl (sub_cons rfl (sub_nil)))))))), f + 1, by omega, by rw [pre3_f, ← heqc]; exact hfc, rfl, rfl⟩
 ·
  exfalso
  have hgef : ¬ f < k0 := by simpa using hc0
  obtain rfl : f = k0 := by omega
  rw [pre3_all] at hff
  exact near_no hk6 h0 hx hd0 hff
end Go.Proofs.YtpdkhlpmiblflaaGreat.Abs

