import Derived.Test.YtpdkhlpmiblflaaGreatQ6
set_option linter.unusedVariables false
set_option linter.unusedSimpArgs false
namespace Go.Proofs.YtpdkhlpmiblflaaGreat.Abs
open Go Go.RowKit

theorem renXs_bks (ks : List Nat) : ∀ xs : List Bk, renXs ks (bks xs) = some (bks xs)
  | [] => rfl
  | x :: xs => by
    show (match renCL ks (bkRow x), renXs ks (bks xs) with | some y, some ys => some (y :: ys) | _, _ => none) = _
    rw [renXs_bks ks xs]
    rfl
theorem shF_bks (ks : List Nat) (ty : TypeId) (sz : Nat) (dp : Bool) (xs : List Bk) : shF ks ⟨ty, sz, dp, bks xs⟩ = ⟨ty, sz, dp, bks xs⟩ := by
  simp only [shF, List.map_map]
  rfl
theorem okF_bks (ks : List Nat) (ty : TypeId) (sz : Nat) (dp : Bool) (xs : List Bk) : okF ks ⟨ty, sz, dp, bks xs⟩ := fun x hx d hd => by
  obtain ⟨b, _, rfl⟩ := List.mem_map.1 hx
  simp only [bkRow, List.mem_cons, List.not_mem_nil, or_false] at hd
  rcases hd with rfl | rfl | rfl | rfl | rfl | rfl | rfl | rfl <;> exact ⟨_, rfl⟩
def drS (s : Src) : Nat → Src
  | 0 => s
  | i + 1 => oneS (drS s i)
def drL (s : Src) : Nat → List Bk
  | 0 => []
  | i + 1 => drL s i ++ [oneB (drS s i)]
theorem drL_len (s : Src) : ∀ i, (drL s i).length = i
  | 0 => rfl
  | i + 1 => by rw [drL, List.length_append, drL_len s i]; rfl
theorem drS_ok (s : Src) : ∀ (i : Nat) (m : Int), 0 ≤ m → okSrcN (14 * (i : Int) + m) s → okSrcN m (drS s i)
  | 0, m, _, h => h.le (by omega)
  | i + 1, m, hm, h => oneS_ok (drS_ok s i (m + 14) (by omega) (h.le (by omega))) hm
theorem drL_ok (s : Src) (i : Nat) : okSrcN (14 * (i : Int)) s → ∀ b ∈ drL s i, isBk b ∧ validB b = true := by
  induction i with
  | zero => intro _ b hb; cases hb
  | succ i ih =>
    intro h b hb
    rw [drL] at hb
    rcases List.mem_append.1 hb with hb | hb
    · exact ih (h.le (by omega)) b hb
    · rw [List.mem_singleton] at hb
      rw [hb]
      exact oneB_ok (drS_ok s i 14 (by omega) (h.le (by omega)))
def swpB (L : List Bk) (i k : Nat) : List Bk := (L.set i (L.getD k bk0)).set k (L.getD i bk0)
def drw4 (L : List Bk) (s : Src) : List Bk × Src := (swpB L (pkV s (L.length : Nat)).toNat (pkV (pkS s (L.length : Nat)) (L.length : Nat)).toNat, pkS (pkS s (L.length : Nat)) (L.length : Nat))
def drw3 (L : List Bk) (s : Src) : List Bk × Src := if decide ((L.length : Int) > 1) = true then (if (pkV s 2 == 0) = true then drw4 L (pkS s 2) else (L, pkS s 2)) else (L, s)
noncomputable def drw2 (L : List Bk) (s : Src) : List Bk × Src := if (pkV s 2 == 0) = true then drw3 (srtB L) (pkS s 2) else (L, pkS s 2)
noncomputable def drwR (s : Src) : List Bk × Src := drw2 (drL (pkS s 12) (pkV s 12).toNat) (drS (pkS s 12) (pkV s 12).toNat)
def DrwOk (xs : List Bk) : Prop := (∀ b ∈ xs, isBk b ∧ validB b = true) ∧ xs.length ≤ 11
theorem drwOk_srt {xs : List Bk} (h : DrwOk xs) : DrwOk (srtB xs) := by
  refine ⟨fun b hb => ?_, by rw [srtB_len]; exact h.2⟩
  obtain ⟨p, h1, rfl⟩ := List.mem_map.1 hb
  have := ipl_all xs (Nat.le_refl _) p h1
  exact h.1 _ (getD_mem' (by omega))
theorem drwOk_swp {xs : List Bk} (h : DrwOk xs) {i k : Nat} (hi : i < xs.length) (hk : k < xs.length) : DrwOk (swpB xs i k) := by
  refine ⟨fun b hb => ?_, by simp only [swpB, List.length_set]; exact h.2⟩
  rcases List.mem_or_eq_of_mem_set hb with hb | rfl
  · rcases List.mem_or_eq_of_mem_set hb with hb | rfl
    · exact h.1 b hb
    · exact h.1 _ (getD_mem' hk)
  · exact h.1 _ (getD_mem' hi)
theorem drwOk_0 {s : Src} (h : okSrcN 200 s) : DrwOk (drL (pkS s 12) (pkV s 12).toNat) := by
  have hb := pkV_b (n := 12) (h.le (by omega)) (by omega)
  refine ⟨drL_ok _ _ ((pkS_ok (k := 198) h (by omega) (by omega)).le (by omega)), by rw [drL_len]; omega⟩
theorem drwOk {s : Src} (h : okSrcN 200 s) : DrwOk (drwR s).1 := by
  have h0 := drwOk_0 h
  have hb := pkV_b (n := 12) (h.le (by omega)) (by omega)
  have hs : okSrcN 20 (drS (pkS s 12) (pkV s 12).toNat) := drS_ok _ _ 20 (by omega) ((pkS_ok (k := 198) h (by omega) (by omega)).le (by omega))
  unfold drwR
  generalize drL (pkS s 12) (pkV s 12).toNat = L at h0
  generalize drS (pkS s 12) (pkV s 12).toNat = r at hs
  unfold drw2
  split
  · have h1 := drwOk_srt h0
    have hs1 : okSrcN 18 (pkS r 2) := pkS_ok hs (by omega) (by omega)
    generalize srtB L = M at h1
    generalize pkS r 2 = r1 at hs1
    unfold drw3
    split
    · rename_i hl
      simp only [decide_eq_true_eq] at hl
      split
      · have hs2 : okSrcN 16 (pkS r1 2) := pkS_ok hs1 (by omega) (by omega)
        generalize pkS r1 2 = r2 at hs2
        have hs3 : okSrcN 14 (pkS r2 (M.length : Nat)) := pkS_ok hs2 (by omega) (by omega)
        have b1 := pkV_b (n := (M.length : Nat)) (hs2.le (by omega)) (by omega)
        have b2 := pkV_b (n := (M.length : Nat)) (hs3.le (by omega)) (by omega)
        exact drwOk_swp h1 (by omega) (by omega)
      · exact h1
    · exact h1
  · exact h0

noncomputable abbrev s_S_l01Order : Spec Unit where
  args := fun _ => [.sl 1 (ints .i8 usualO)]
  res := fun _ => .val (.bool true)

set_option maxRecDepth 20000 in
set_option maxHeartbeats 1000000 in
theorem ok_S_l01Order : FnOk Pr 37 s_S_l01Order := by
 refine fn_ok 1 0 T0_ok Go.Proofs.Tryz.func37 rfl (enters_of Go.Proofs.Tryz.func37 rfl rfl) (fun _ => rfl) (fun _ => rfl) (fun _ => rfl) ?_
 rintro ⟨⟩ - C hP hN hm hG
 change awp C _ _ ⟨[(0, .sl 1 (ints .i8 usualO))], [], 0⟩
 refine awp_seq ?_
 refine r1 T0_ok hP hm hN ?_
 refine g1 ?_
 refine awp_seq ?_
 refine r1 T0_ok hP hm hN ?_
 iterate 3 refine g1 ?_
 refine awp_seq ?_
 refine awp_seq ?_
 refine r1 T0_ok hP hm hN ?_
 refine g1 ?_
 refine awp_block ?_
 refine awp_loop (fun n st => (n = 3 ∧ st = ⟨[(4, .val (.int .i64 0)), (0, .sl 1 (ints .i8 usualO)), (3, .ptr 0 0 0)], [(0, ⟨102, 7, true, [[.val (.bool false), .val (.bool false), .val (.bool false), .val (.bool false), .val (.bool false), .val (.bool false), .val (.bool false)]]⟩)], 1⟩) ∨ (n = 2 ∧ st = ⟨[(4, .val (.int .i64 1)), (0, .sl 1 (ints .i8 usualO)), (3, .ptr 0 0 0)], [(0, ⟨102, 7, true, [[.val (.bool false), .val (.bool true), .val (.bool false), .val (.bool false), .val (.bool false), .val (.bool false), .val (.bool false)]]⟩)], 1⟩) ∨ (n = 1 ∧ st = ⟨[(4, .val (.int .i64 2)), (0, .sl 1 (ints .i8 usualO)), (3, .ptr 0 0 0)], [(0, ⟨102, 7, true, [[.val (.bool false), .val (.bool true), .val (.bool true), .val (.bool false), .val (.bool false), .val (.bool false), .val (.bool false)]]⟩)], 1⟩) ∨ (n = 0 ∧ st = ⟨[(4, .val (.int .i64 3)), (0, .sl 1 (ints .i8 usualO)), (3, .ptr 0 0 0)], [(0, ⟨102, 7, true, [[.val (.bool false), .val (.bool true), .val (.bool true), .val (.bool true), .val (.bool false), .val (.bool false), .val (.bool false)]]⟩)], 1⟩)) 3 ⟨_, weak_sl (sub_cons rfl (sub_cons rfl (sub_cons rfl (sub_nil)))), .inl ⟨rfl, rfl⟩⟩ ?_
 rintro n st (⟨rfl, rfl⟩ | ⟨rfl, rfl⟩ | ⟨rfl, rfl⟩ | ⟨rfl, rfl⟩)
 ·
  refine awp_seq ?_
  refine awp_seq ?_
  refine r1 T0_ok hP hm hN ?_
  iterate 4 refine g1 ?_
  refine awp_cond rfl (fun hc => ?_) (fun hc => absurd hc (by decide))
  refine awp_skip ?_
  refine awp_seq ?_
  refine awp_block ?_
  refine awp_seq ?_
  refine r1 T0_ok hP hm hN ?_
  iterate 4 refine g1 ?_
  refine gc1 ?_ (call1 ok_S_l01Field _ [])
  refine g1 ?_
  refine awp_seq ?_
  refine awp_seq ?_
  refine r1 T0_ok hP hm hN ?_
  iterate 2 refine g1 ?_
  refine gc1 ?_ (call1 ok_S_l00In (_, _, _) [])
  iterate 2 refine g1 ?_
  iterate 3 refine gg1 ?_
  refine g1 ?_
  refine awp_cond rfl (fun hc0 => ?_) (fun hc0 => ?_)
  ·
   exact absurd hc0 (by decide)
  ·
   refine awp_skip ?_
   refine r1 T0_ok hP hm hN ?_
   iterate 3 refine g1 ?_
   refine r1 T0_ok hP hm hN ?_
   iterate 3 refine g1 ?_
   exact ⟨2, _, by omega, weak_sl (sub_cons rfl (sub_cons rfl (sub_cons rfl (sub_nil)))), .inr (.inl ⟨rfl, rfl⟩)⟩
 ·
  refine awp_seq ?_
  refine awp_seq ?_
  refine r1 T0_ok hP hm hN ?_
  iterate 4 refine g1 ?_
  refine awp_cond rfl (fun hc => ?_) (fun hc => absurd hc (by decide))
  refine awp_skip ?_
  refine awp_seq ?_
  refine awp_block ?_
  refine awp_seq ?_
  refine r1 T0_ok hP hm hN ?_
  iterate 4 refine g1 ?_
  refine gc1 ?_ (call1 ok_S_l01Field _ [])
  refine g1 ?_
  refine awp_seq ?_
  refine awp_seq ?_
  refine r1 T0_ok hP hm hN ?_
  iterate 2 refine g1 ?_
  refine gc1 ?_ (call1 ok_S_l00In (_, _, _) [])
  iterate 2 refine g1 ?_
  iterate 3 refine gg1 ?_
  refine g1 ?_
  refine awp_cond rfl (fun hc1 => ?_) (fun hc1 => ?_)
  ·
   exact absurd hc1 (by decide)
  ·
   refine awp_skip ?_
   refine r1 T0_ok hP hm hN ?_
   iterate 3 refine g1 ?_
   refine r1 T0_ok hP hm hN ?_
   iterate 3 refine g1 ?_
   exact ⟨1, _, by omega, weak_sl (sub_cons rfl (sub_cons rfl (sub_cons rfl (sub_nil)))), .inr (.inr (.inl ⟨rfl, rfl⟩))⟩
 ·
  refine awp_seq ?_
  refine awp_seq ?_
  refine r1 T0_ok hP hm hN ?_
  iterate 4 refine g1 ?_
  refine awp_cond rfl (fun hc => ?_) (fun hc => absurd hc (by decide))
  refine awp_skip ?_
  refine awp_seq ?_
  refine awp_block ?_
  refine awp_seq ?_
  refine r1 T0_ok hP hm hN ?_
  iterate 4 refine g1 ?_
  refine gc1 ?_ (call1 ok_S_l01Field _ [])
  refine g1 ?_
  refine awp_seq ?_
  refine awp_seq ?_
  refine r1 T0_ok hP hm hN ?_
  iterate 2 refine g1 ?_
  refine gc1 ?_ (call1 ok_S_l00In (_, _, _) [])
  iterate 2 refine g1 ?_
  iterate 3 refine gg1 ?_
  refine g1 ?_
  refine awp_cond rfl (fun hc2 => ?_) (fun hc2 => ?_)
  ·
   exact absurd hc2 (by decide)
  ·
   refine awp_skip ?_
   refine r1 T0_ok hP hm hN ?_
   iterate 3 refine g1 ?_
   refine r1 T0_ok hP hm hN ?_
   iterate 3 refine g1 ?_
   exact ⟨0, _, by omega, weak_sl (sub_cons rfl (sub_cons rfl (sub_cons rfl (sub_nil)))), .inr (.inr (.inr (⟨rfl, rfl⟩)))⟩
 ·
  refine awp_seq ?_
  refine awp_seq ?_
  refine r1 T0_ok hP hm hN ?_
  iterate 4 refine g1 ?_
  refine awp_cond rfl (fun hc => absurd hc (by decide)) (fun hc => ?_)
  refine awp_exit ?_
  repeat refine thenA_exit ?_
  refine blockA_hit ?_
  refine awp_seq ?_
  refine r1 T0_ok hP hm hN ?_
  iterate 4 refine g1 ?_
  refine awp_ret ?_
  refine fin_mk [] rfl rfl ?_ trivial (by decide)
  rfl

noncomputable abbrev s_S_SortBooks : Spec (List Bk) where
  args := fun xs => [.sl 1 (ints .i8 usualO), .sl 8 (bks xs)]
  pre := fun xs => (∀ b ∈ xs, isBk b) ∧ validBs xs = true ∧ xs.length ≤ 1048576
  new := fun xs => [⟨73, 8, false, bks (srtB xs)⟩]
  res := fun xs => .tup [.own 0, .val (.int .i64 0)]

set_option maxRecDepth 20000 in
set_option maxHeartbeats 1000000 in
theorem ok_S_SortBooks : FnOk Pr 13 s_S_SortBooks := by
 refine fn_ok 2 0 T0_ok Go.Proofs.Tryz.func13 rfl (enters_of Go.Proofs.Tryz.func13 rfl rfl) (fun _ => rfl) (fun _ => rfl) (fun _ => rfl) ?_
 rintro xs ⟨hv, hval, hl⟩ C hP hN hm hG
 change awp C _ _ ⟨[(0, .sl 1 (ints .i8 usualO)), (1, .sl 8 (bks xs))], [], 0⟩
 have hval : validBs xs = true := hval
 refine awp_seq ?_
 refine r1 T0_ok hP hm hN ?_
 iterate 2 refine g1 ?_
 refine awp_seq ?_
 refine awp_seq ?_
 refine r1 T0_ok hP hm hN ?_
 refine g1 ?_
 refine gc1 ?_ (call1 ok_S_l01Order () [])
 iterate 2 refine g1 ?_
 refine gg1 ?_
 refine ggc1 ?_ (hs := by intro hb; simp +decide only [hb, gd_tt, gd_ff, beq_self_eq_true, Bool.true_and, beq_true]; exact ⟨rfl, _, call1 ok_S_l01Ok _ [] (hpre := by (try dsimp only); exact ⟨hv, by omega⟩), rfl, rfl, rfl⟩)
 refine gg1 ?_
 refine g1 ?_
 refine awp_cond rfl (fun hc0 => ?_) (fun hc0 => ?_)
 ·
  exact absurd hc0 (by rw [hval]; decide)
 ·
  refine awp_skip ?_
  refine awp_seq ?_
  refine r1 T0_ok hP hm hN ?_
  iterate 2 refine g1 ?_
  refine gc1 ?_ (call1 ok_S_l01Sorted _ [] (hpre := by (try dsimp only); exact ⟨hv, by omega⟩))
  iterate 2 refine g1 ?_
  refine awp_ret ?_
  refine fin_mk [0] rfl rfl ?_ (objs_cons rfl rfl rfl rfl rfl (.inl rfl) objs_nil) (by decide)
  rfl

noncomputable abbrev s_S_l01Drawn : Spec Src where
  args := fun _ => [.ptr 0 0 0]
  pre := fun s => okSrcN 200 s
  obs := fun s => [⟨80, 3, false, [[.sl 1 (ints .u8 (s).1), .val (.int .i64 (s).2.1), .val (.int .u64 (s).2.2)]]⟩]
  out := fun s => [⟨80, 3, false, [[.sl 1 (ints .u8 ((drwR s).2).1), .val (.int .i64 ((drwR s).2).2.1), .val (.int .u64 ((drwR s).2).2.2)]]⟩]
  new := fun s => [⟨73, 8, false, bks (drwR s).1⟩]
  res := fun s => .own 1

set_option maxRecDepth 20000 in
set_option maxHeartbeats 8000000 in
theorem ok_S_l01Drawn : FnOk Pr 20 s_S_l01Drawn := by
 refine fn_okG 1 1 T0_ok Go.Proofs.Tryz.func20 rfl (enters_of Go.Proofs.Tryz.func20 rfl rfl) (fun _ => rfl) (fun _ => rfl) (fun _ => rfl) ?_
 rintro s hs C hP hN hm hG
 change awp C _ _ ⟨[(0, .ptr 0 0 0)], [(0, ⟨80, 3, false, [[.sl 1 (ints .u8 (s).1), .val (.int .i64 (s).2.1), .val (.int .u64 (s).2.2)]]⟩)], 1⟩
 have hb0 := pkV_b (n := 12) (hs.le (by omega)) (by omega)
 have hs1 : okSrcN 198 (pkS s 12) := pkS_ok hs (by omega) (by omega)
 have hD0 := drwOk_0 hs
 have hD1 := drwOk_srt hD0
 have hr0 : okSrcN 20 (drS (pkS s 12) (pkV s 12).toNat) := drS_ok _ _ 20 (by omega) (hs1.le (by omega))
 have hq1 : okSrcN 18 (pkS (drS (pkS s 12) (pkV s 12).toNat) 2) := pkS_ok hr0 (by omega) (by omega)
 have hdl0 := drL_len (pkS s 12) (pkV s 12).toNat
 have xn1 := @bks_set
 refine awp_seq ?_
 refine r1 T0_ok hP hm hN ?_
 refine g1 ?_
 refine awp_seq ?_
 refine r1 T0_ok hP hm hN ?_
 iterate 2 refine g1 ?_
 refine awp_seq ?_
 refine awp_seq ?_
 refine r1 T0_ok hP hm hN ?_
 refine g1 ?_
 refine gc1 ?_ (call_pick s 12 ⟨hs.le (by omega), by omega, by omega⟩ rfl rfl rfl rfl)
 refine g1 ?_
 refine awp_block ?_
 refine awp_loop (fun n st => ∃ i : Nat, i ≤ (pkV s 12).toNat ∧ n = (pkV s 12).toNat - i ∧ st = ⟨[(4, .val (.int .i64 (((pkV s 12).toNat - i : Nat) : Int))), (3, .own 1), (0, .ptr 0 0 0)], [(1, ⟨73, 8, false, bks (drL (pkS s 12) i)⟩), (0, ⟨80, 3, false, [[.sl 1 (ints .u8 ((drS (pkS s 12) i)).1), .val (.int .i64 ((drS (pkS s 12) i)).2.1), .val (.int .u64 ((drS (pkS s 12) i)).2.2)]]⟩)], 2⟩) ((pkV s 12).toNat) ⟨_, (by rw [show (pkV s 12) = (((pkV s 12).toNat - 0 : Nat) : Int) by omega]; exact weak_sl (sub_cons rfl (sub_cons rfl (sub_cons rfl (sub_nil))))), 0, by omega, rfl, rfl⟩ ?_
 rintro n st ⟨i, hii, hni, rfl⟩
 have hdl := drL_len (pkS s 12) i
 have hsi : okSrcN 30 (drS (pkS s 12) i) := drS_ok _ _ 30 (by omega) (hs1.le (by omega))
 refine awp_seq ?_
 refine awp_seq ?_
 refine r1 T0_ok hP hm hN ?_
 iterate 2 refine g1 ?_
 refine awp_cond rfl (fun hc0 => ?_) (fun hc0 => ?_)
 ·
  have hlt : i < (pkV s 12).toNat := by simp at hc0; omega
  refine awp_skip ?_
  refine awp_seq ?_
  refine awp_block ?_
  refine r1 T0_ok hP hm hN ?_
  iterate 2 refine g1 ?_
  refine gc1 ?_ (call_l01One (drS (pkS s 12) i) (hsi.le (by omega)) rfl rfl rfl rfl)
  refine g1 ?_
  refine ga1 ?_
  refine g1 ?_
  refine r1 T0_ok hP hm hN ?_
  iterate 3 refine g1 ?_
  refine ⟨(pkV s 12).toNat - (i + 1), _, by omega, (by rw [show drL (pkS s 12) (i + 1) = drL (pkS s 12) i ++ [oneB (drS (pkS s 12) i)] from rfl, bks_app', show (((pkV s 12).toNat - i : Nat) : Int) - 1 = (((pkV s 12).toNat - (i + 1) : Nat) : Int) by omega]; exact Weak.trans (weak_drop 2) (Weak.trans (weak_nx (nx' := 2) (by omega) (by rfl)) (weak_sl (sub_cons rfl (sub_cons rfl (sub_cons rfl (sub_nil))))))), i + 1, by omega, rfl, rfl⟩
 ·
  have hge : ¬ i < (pkV s 12).toNat := by simp at hc0; omega
  obtain rfl : i = (pkV s 12).toNat := by omega
  refine awp_exit ?_
  repeat refine thenA_exit ?_
  refine blockA_hit ?_
  refine awp_seq ?_
  refine awp_seq ?_
  refine r1 T0_ok hP hm hN ?_
  refine g1 ?_
  refine gc1 ?_ (call_one (drS (pkS s 12) (pkV s 12).toNat) 2 ⟨hr0.le (by omega), by omega, by omega⟩ rfl rfl rfl rfl)
  refine awp_cond rfl (fun hc1 => ?_) (fun hc1 => ?_)
  ·
   refine awp_seq ?_
   refine r1 T0_ok hP hm hN ?_
   iterate 2 refine g1 ?_
   refine gc1 ?_ (call1 ok_S_l01Sorted _ [] (hpre := by (try dsimp only); exact ⟨fun b hb => (hD0.1 b hb).1, by omega⟩) (hfo := by exact fm_cons (flat_bks _ _ _ _) fm_nil))
   refine g1 ?_
   refine awp_seq ?_
   refine r1 T0_ok hP hm hN ?_
   iterate 4 refine g1 ?_
   cases hs0 : decide ((((srtB (drL (pkS s 12) (pkV s 12).toNat))).length : Int) > 1)
   ·
    iterate 2 (refine gn1 ?_)
    refine g1 ?_
    refine awp_cond rfl (fun hc2 => ?_) (fun hc2 => ?_)
    ·
     exact absurd hc2 (by decide)
    ·
     refine awp_skip ?_
     refine awp_seq ?_
     refine r1 T0_ok hP hm hN ?_
     iterate 2 refine g1 ?_
     refine awp_ret ?_
     refine finG_mk [3] rfl rfl ?_ ?_ (by decide)
     · rfl
     · show ObjsG _ _ _ [⟨80, 3, false, [[.sl 1 (ints .u8 ((drwR s).2).1), .val (.int .i64 ((drwR s).2).2.1), .val (.int .u64 ((drwR s).2).2.2)]]⟩, ⟨73, 8, false, bks (drwR s).1⟩]
       rw [show drwR s = ((srtB (drL (pkS s 12) (pkV s 12).toNat)), (pkS (drS (pkS s 12) (pkV s 12).toNat) 2)) by rw [drwR, drw2, if_pos hc1, drw3, if_neg (by rw [hs0]; simp)]]
       exact objsG_cons rfl rfl rfl rfl (.inr (.inl rfl)) (objsG_cons rfl rfl rfl (renXs_bks _ _) (.inr (.inl rfl)) objsG_nil)
   ·
    refine gy1 ?_
    refine gyc1 ?_ (call_one (pkS (drS (pkS s 12) (pkV s 12).toNat) 2) 2 ⟨hq1.le (by omega), by omega, by omega⟩ rfl rfl rfl rfl)
    refine g1 ?_
    refine awp_cond rfl (fun hc3 => ?_) (fun hc3 => ?_)
    ·
     have hsl : ((srtB (drL (pkS s 12) (pkV s 12).toNat))).length = (pkV s 12).toNat := by rw [srtB_len, drL_len]
     have hl1 := hs0
     simp only [decide_eq_true_eq] at hl1
     have hq2 : okSrcN 16 (pkS (pkS (drS (pkS s 12) (pkV s 12).toNat) 2) 2) := pkS_ok hq1 (by omega) (by omega)
     have hq3 : okSrcN 14 (pkS (pkS (pkS (drS (pkS s 12) (pkV s 12).toNat) 2) 2) (((srtB (drL (pkS s 12) (pkV s 12).toNat))).length : Nat)) := pkS_ok hq2 (by omega) (by omega)
     have hi0 := pkV_b (n := (((srtB (drL (pkS s 12) (pkV s 12).toNat))).length : Nat)) (hq2.le (by omega)) (by omega)
     have hk0 := pkV_b (n := (((srtB (drL (pkS s 12) (pkV s 12).toNat))).length : Nat)) (hq3.le (by omega)) (by omega)
     refine awp_seq ?_
     refine r1 T0_ok hP hm hN ?_
     iterate 3 refine g1 ?_
     refine gc1 ?_ (call_pick (pkS (pkS (drS (pkS s 12) (pkV s 12).toNat) 2) 2) (((srtB (drL (pkS s 12) (pkV s 12).toNat))).length : Nat) ⟨hq2.le (by omega), by omega, by omega⟩ rfl rfl rfl rfl)
     refine g1 ?_
     refine awp_seq ?_
     refine r1 T0_ok hP hm hN ?_
     iterate 3 refine g1 ?_
     refine gc1 ?_ (call_pick (pkS (pkS (pkS (drS (pkS s 12) (pkV s 12).toNat) 2) 2) (((srtB (drL (pkS s 12) (pkV s 12).toNat))).length : Nat)) (((srtB (drL (pkS s 12) (pkV s 12).toNat))).length : Nat) ⟨hq3.le (by omega), by omega, by omega⟩ rfl rfl rfl rfl)
     refine g1 ?_
     refine awp_seq ?_
     refine r1 T0_ok hP hm hN ?_
     iterate 6 refine g1 ?_
     refine awp_seq ?_
     refine r1 T0_ok hP hm hN ?_
     iterate 8 refine g1 ?_
     refine r1 T0_ok hP hm hN ?_
     iterate 4 refine g1 ?_
     have hgz : ((bks (srtB (drL (pkS s 12) (pkV s 12).toNat))).set (pkV (pkS (pkS (drS (pkS s 12) (pkV s 12).toNat) 2) 2) (((srtB (drL (pkS s 12) (pkV s 12).toNat))).length : Nat)).toNat (bkRow ((srtB (drL (pkS s 12) (pkV s 12).toNat)).getD (pkV (pkS (pkS (pkS (drS (pkS s 12) (pkV s 12).toNat) 2) 2) (((srtB (drL (pkS s 12) (pkV s 12).toNat))).length : Nat)) (((srtB (drL (pkS s 12) (pkV s 12).toNat))).length : Nat)).toNat bk0)))[(pkV (pkS (pkS (pkS (drS (pkS s 12) (pkV s 12).toNat) 2) 2) (((srtB (drL (pkS s 12) (pkV s 12).toNat))).length : Nat)) (((srtB (drL (pkS s 12) (pkV s 12).toNat))).length : Nat)).toNat]? = some (bkRow (((srtB (drL (pkS s 12) (pkV s 12).toNat)).set (pkV (pkS (pkS (drS (pkS s 12) (pkV s 12).toNat) 2) 2) (((srtB (drL (pkS s 12) (pkV s 12).toNat))).length : Nat)).toNat ((srtB (drL (pkS s 12) (pkV s 12).toNat)).getD (pkV (pkS (pkS (pkS (drS (pkS s 12) (pkV s 12).toNat) 2) 2) (((srtB (drL (pkS s 12) (pkV s 12).toNat))).length : Nat)) (((srtB (drL (pkS s 12) (pkV s 12).toNat))).length : Nat)).toNat bk0)).getD (pkV (pkS (pkS (pkS (drS (pkS s 12) (pkV s 12).toNat) 2) 2) (((srtB (drL (pkS s 12) (pkV s 12).toNat))).length : Nat)) (((srtB (drL (pkS s 12) (pkV s 12).toNat))).length : Nat)).toNat bk0)) := by rw [← bks_set]; exact bks_get _ _ (by rw [List.length_set]; omega)
     refine g1 ?_ (hs := astep_store_p (by rfl) (by rfl) (by rfl) (by rfl) (by exact hgz))
     refine awp_seq ?_
     refine r1 T0_ok hP hm hN ?_
     iterate 2 refine g1 ?_
     refine awp_ret ?_
     refine finG_mk [3] rfl rfl ?_ ?_ (by decide)
     · rfl
     · show ObjsG _ _ _ [⟨80, 3, false, [[.sl 1 (ints .u8 ((drwR s).2).1), .val (.int .i64 ((drwR s).2).2.1), .val (.int .u64 ((drwR s).2).2.2)]]⟩, ⟨73, 8, false, bks (drwR s).1⟩]
       rw [show drwR s = drw4 (srtB (drL (pkS s 12) (pkV s 12).toNat)) (pkS (pkS (drS (pkS s 12) (pkV s 12).toNat) 2) 2) by rw [drwR, drw2, if_pos hc1, drw3, if_pos hs0, if_pos hc3]]
       exact objsG_cons rfl rfl rfl rfl (.inr (.inl rfl)) (objsG_cons rfl rfl rfl ((renXs_bks _ _).trans (congrArg some (show bks (swpB (srtB (drL (pkS s 12) (pkV s 12).toNat)) (pkV (pkS (pkS (drS (pkS s 12) (pkV s 12).toNat) 2) 2) (((srtB (drL (pkS s 12) (pkV s 12).toNat))).length : Nat)).toNat (pkV (pkS (pkS (pkS (drS (pkS s 12) (pkV s 12).toNat) 2) 2) (((srtB (drL (pkS s 12) (pkV s 12).toNat))).length : Nat)) (((srtB (drL (pkS s 12) (pkV s 12).toNat))).length : Nat)).toNat) = ((bks (srtB (drL (pkS s 12) (pkV s 12).toNat))).set (pkV (pkS (pkS (drS (pkS s 12) (pkV s 12).toNat) 2) 2) (((srtB (drL (pkS s 12) (pkV s 12).toNat))).length : Nat)).toNat (bkRow ((srtB (drL (pkS s 12) (pkV s 12).toNat)).getD (pkV (pkS (pkS (pkS (drS (pkS s 12) (pkV s 12).toNat) 2) 2) (((srtB (drL (pkS s 12) (pkV s 12).toNat))).length : Nat)) (((srtB (drL (pkS s 12) (pkV s 12).toNat))).length : Nat)).toNat bk0))).set (pkV (pkS (pkS (pkS (drS (pkS s 12) (pkV s 12).toNat) 2) 2) (((srtB (drL (pkS s 12) (pkV s 12).toNat))).length : Nat)) (((srtB (drL (pkS s 12) (pkV s 12).toNat))).length : Nat)).toNat (bkRow ((srtB (drL (pkS s 12) (pkV s 12).toNat)).getD (pkV (pkS (pkS (drS (pkS s 12) (pkV s 12).toNat) 2) 2) (((srtB (drL (pkS s 12) (pkV s 12).toNat))).length : Nat)).toNat bk0)) by rw [swpB, bks_set, bks_set]))) (.inr (.inl rfl)) objsG_nil)
    ·
     refine awp_skip ?_
     refine awp_seq ?_
     refine r1 T0_ok hP hm hN ?_
     iterate 2 refine g1 ?_
     refine awp_ret ?_
     refine finG_mk [3] rfl rfl ?_ ?_ (by decide)
     · rfl
     · show ObjsG _ _ _ [⟨80, 3, false, [[.sl 1 (ints .u8 ((drwR s).2).1), .val (.int .i64 ((drwR s).2).2.1), .val (.int .u64 ((drwR s).2).2.2)]]⟩, ⟨73, 8, false, bks (drwR s).1⟩]
       rw [show drwR s = ((srtB (drL (pkS s 12) (pkV s 12).toNat)), (pkS (pkS (drS (pkS s 12) (pkV s 12).toNat) 2) 2)) by rw [drwR, drw2, if_pos hc1, drw3, if_pos hs0, if_neg (by rw [hc3]; simp)]]
       exact objsG_cons rfl rfl rfl rfl (.inr (.inl rfl)) (objsG_cons rfl rfl rfl (renXs_bks _ _) (.inr (.inl rfl)) objsG_nil)
  ·
   refine awp_skip ?_
   refine awp_seq ?_
   refine r1 T0_ok hP hm hN ?_
   iterate 2 refine g1 ?_
   refine awp_ret ?_
   refine finG_mk [1] rfl rfl ?_ ?_ (by decide)
   · rfl
   · show ObjsG _ _ _ [⟨80, 3, false, [[.sl 1 (ints .u8 ((drwR s).2).1), .val (.int .i64 ((drwR s).2).2.1), .val (.int .u64 ((drwR s).2).2.2)]]⟩, ⟨73, 8, false, bks (drwR s).1⟩]
     rw [show drwR s = ((drL (pkS s 12) (pkV s 12).toNat), (pkS (drS (pkS s 12) (pkV s 12).toNat) 2)) by rw [drwR, drw2, if_neg (by rw [hc1]; simp)]]
     exact objsG_cons rfl rfl rfl rfl (.inr (.inl rfl)) (objsG_cons rfl rfl rfl (renXs_bks _ _) (.inr (.inl rfl)) objsG_nil)
end Go.Proofs.YtpdkhlpmiblflaaGreat.Abs

