import Derived.Test.YtoincpeodnmfmaaDoorR4
set_option linter.unusedVariables false
set_option linter.unusedSimpArgs false
namespace Go.Proofs.YtoincpeodnmfmaaDoor.Abs
open Go Go.RowKit
noncomputable abbrev s_S_ReadMoves : Spec ByteArray where
  args := fun s => [.val (.string s)]
  pre := fun s => s.size ≤ 1048576
  new := fun s => [⟨42, 2, false, mvs (readS s.data.toList).1⟩]
  res := fun s => .tup [.own 0, .val (.int .i64 (readS s.data.toList).2)]

set_option maxRecDepth 20000 in
set_option maxHeartbeats 4000000 in
theorem ok_S_ReadMoves : FnOk Pr 5 s_S_ReadMoves := by
  refine fn_ok 1 0 T0_ok Go.Proofs.Tryd.func5 rfl (enters_of Go.Proofs.Tryd.func5 rfl rfl) (fun _ => rfl) (fun _ => rfl) (fun _ => rfl) ?_
  rintro s hs C hP hN hm hG
  change awp C _ _ ⟨[(0, .val (.string s))], [], 0⟩
  have hs : s.size ≤ 1048576 := hs
  refine awp_seq ?_
  refine r1 T0_ok hP hm hN ?_
  refine g1 ?_
  refine g1 ?_
  refine awp_seq ?_
  refine r1 T0_ok hP hm hN ?_
  refine g1 ?_
  refine g1 ?_
  refine awp_seq ?_
  refine awp_seq ?_
  refine r1 T0_ok hP hm hN ?_
  refine g1 ?_
  refine g1 ?_
  refine awp_cond rfl (fun hc0 => ?_) (fun hc0 => ?_)
  · skip
    have hr : readS s.data.toList = ([], 0) := readS_nil (by rw [ba_nil2] at hc0; simpa using hc0)
    refine awp_seq ?_
    refine r1 T0_ok hP hm hN ?_
    refine g1 ?_
    refine g1 ?_
    refine g1 ?_
    refine awp_ret ?_
    refine fin_mk [0] rfl rfl ?_ (by simp only [hr]; exact objs_cons rfl rfl rfl rfl rfl (.inl rfl) objs_nil) (by decide)
    show D.tup [.own 0, .val (.int .i64 (readS s.data.toList).2)] = _
    rw [hr]
    rfl
  · skip
    have hne : ¬ s.data.toList = [] := by rw [ba_nil2] at hc0; simpa using hc0
    refine awp_skip ?_
    refine awp_seq ?_
    refine r1 T0_ok hP hm hN ?_
    refine g1 ?_
    refine gc1 ?_ (call1 ok_S_l01Split (s, 32) [] (hpre := by (try dsimp only); exact hs) (hfo := by intro o ho; simp only [List.nil_append, List.mem_singleton] at ho; subst ho; exact flat_strs _ _ _ _))
    refine g1 ?_
    refine awp_seq ?_
    refine awp_seq ?_
    refine r1 T0_ok hP hm hN ?_
    refine g1 ?_
    refine g1 ?_
    refine g1 ?_
    refine awp_cond rfl (fun hc1 => ?_) (fun hc1 => ?_)
    · skip
      have hr : readS s.data.toList = ([], 5) := readS_many hne (by simp at hc1; omega)
      refine awp_seq ?_
      refine r1 T0_ok hP hm hN ?_
      refine g1 ?_
      refine g1 ?_
      refine g1 ?_
      refine awp_ret ?_
      refine fin_mk [2] rfl rfl ?_ (by simp only [hr]; exact objs_cons rfl rfl rfl rfl rfl (.inl rfl) objs_nil) (by decide)
      show D.tup [.own 2, .val (.int .i64 (readS s.data.toList).2)] = _
      rw [hr]
      rfl
    · skip
      have hl2 : ¬ (splP 32 s).length > 200 := by simp at hc1; omega
      refine awp_skip ?_
      refine awp_seq ?_
      refine awp_seq ?_
      refine r1 T0_ok hP hm hN ?_
      refine g1 ?_
      refine awp_block ?_
      refine awp_loop (fun n st => ∃ i : Nat, i ≤ (splP 32 s).length ∧ (∀ j, j < i → wordOk ((splP 32 s).getD j baZ).data.toList = true) ∧ n = (splP 32 s).length - i ∧ st = ⟨[(6, .val (.int .i64 (i : Nat))), (5, .own 1), (4, .own 0)], [(1, ⟨9, 1, false, strs (splP 32 s)⟩), (0, ⟨42, 2, false, mvs (mapF wV (splP 32 s) i)⟩)], 2⟩) ((splP 32 s).length) ⟨_, weak_sl (sub_cons rfl (sub_cons rfl (sub_cons rfl (sub_nil)))), 0, by omega, fun j h => by omega, rfl, rfl⟩ ?_
      rintro n st ⟨i, hii, hall, hni, rfl⟩
      have hml := mapF_len wV (splP 32 s) hii
      refine awp_seq ?_
      refine awp_seq ?_
      refine r1 T0_ok hP hm hN ?_
      refine g1 ?_
      refine g1 ?_
      refine g1 ?_
      refine g1 ?_
      refine awp_cond rfl (fun hc2 => ?_) (fun hc2 => ?_)
      · skip
        have hlti : i < (splP 32 s).length := by simpa using hc2
        have hgw := strs_get (splP 32 s) i hlti
        have hz := splP_sz (getD_mem' (d := baZ) hlti)
        refine awp_skip ?_
        refine awp_seq ?_
        refine awp_block ?_
        refine awp_seq ?_
        refine r1 T0_ok hP hm hN ?_
        refine g1 ?_
        refine g1 ?_
        refine g1 ?_
        refine g1 ?_
        refine gc1 ?_ (call1 ok_S_l01Split (((splP 32 s).getD i baZ), 62) [] (hpre := by (try dsimp only); omega) (hfo := by intro o ho; simp only [List.nil_append, List.mem_singleton] at ho; subst ho; exact flat_strs _ _ _ _))
        refine g1 ?_
        refine awp_seq ?_
        refine awp_seq ?_
        refine r1 T0_ok hP hm hN ?_
        refine g1 ?_
        refine g1 ?_
        refine g1 ?_
        refine awp_cond rfl (fun hc3 => ?_) (fun hc3 => ?_)
        · skip
          have hr : readS s.data.toList = ([], 5) := readS_bad hne hl2 hlti (word_len (fun e => by have h := hc3; rw [bne_iff_ne] at h; exact h (by omega)))
          refine awp_seq ?_
          refine r1 T0_ok hP hm hN ?_
          refine g1 ?_
          refine g1 ?_
          refine g1 ?_
          refine awp_ret ?_
          refine fin_mk [3] rfl rfl ?_ (by simp only [hr]; exact objs_cons rfl rfl rfl rfl rfl (.inl rfl) objs_nil) (by decide)
          show D.tup [.own 3, .val (.int .i64 (readS s.data.toList).2)] = _
          rw [hr]
          rfl
        · skip
          have hw2 : (splP 62 ((splP 32 s).getD i baZ)).length = 2 := by have h := hc3; rw [bne_eq_false_iff_eq] at h; omega
          have hg0 := strs_get (splP 62 ((splP 32 s).getD i baZ)) 0 (by omega)
          have hg1 := strs_get (splP 62 ((splP 32 s).getD i baZ)) 1 (by omega)
          have hz0 := splP_sz (getD_mem' (d := baZ) (show 0 < (splP 62 ((splP 32 s).getD i baZ)).length by omega))
          have hz1 := splP_sz (getD_mem' (d := baZ) (show 1 < (splP 62 ((splP 32 s).getD i baZ)).length by omega))
          refine awp_skip ?_
          refine awp_seq ?_
          refine r1 T0_ok hP hm hN ?_
          refine g1 ?_
          refine g1 ?_
          refine g1 ?_
          refine gc1 ?_ (call1 ok_S_l01Number ((splP 62 ((splP 32 s).getD i baZ)).getD 0 baZ) [] (hpre := by (try dsimp only); omega))
          refine g1 ?_
          refine g1 ?_
          refine g1 ?_
          refine g1 ?_
          refine g1 ?_
          refine awp_seq ?_
          refine r1 T0_ok hP hm hN ?_
          refine g1 ?_
          refine g1 ?_
          refine g1 ?_
          refine gc1 ?_ (call1 ok_S_l01Number ((splP 62 ((splP 32 s).getD i baZ)).getD 1 baZ) [] (hpre := by (try dsimp only); omega))
          refine g1 ?_
          refine g1 ?_
          refine g1 ?_
          refine g1 ?_
          refine g1 ?_
          refine awp_seq ?_
          refine awp_seq ?_
          refine r1 T0_ok hP hm hN ?_
          refine g1 ?_
          refine g1 ?_
          refine g1 ?_
          refine gg1 ?_
          refine gg1 ?_
          refine g1 ?_
          refine g1 ?_
          refine gg1 ?_
          refine gg1 ?_
          refine g1 ?_
          refine g1 ?_
          refine gg1 ?_
          refine gg1 ?_
          refine g1 ?_
          refine awp_cond rfl (fun hc4 => ?_) (fun hc4 => ?_)
          · skip
            have hr : readS s.data.toList = ([], 5) := readS_bad hne hl2 hlti (by rw [word_cond hw2] at hc4; simpa using hc4)
            refine awp_seq ?_
            refine r1 T0_ok hP hm hN ?_
            refine g1 ?_
            refine g1 ?_
            refine g1 ?_
            refine awp_ret ?_
            refine fin_mk [3] rfl rfl ?_ (by simp only [hr]; exact objs_cons rfl rfl rfl rfl rfl (.inl rfl) objs_nil) (by decide)
            show D.tup [.own 3, .val (.int .i64 (readS s.data.toList).2)] = _
            rw [hr]
            rfl
          · skip
            have hwk : wordOk ((splP 32 s).getD i baZ).data.toList = true := by rw [word_cond hw2] at hc4; simpa using hc4
            obtain ⟨hwv, ⟨hq1, hq2⟩, hq3, hq4⟩ := word_val hw2 hwk
            rw [hwv] at hq1 hq2 hq3 hq4
            simp only at hq1 hq2 hq3 hq4
            refine awp_skip ?_
            refine r1 T0_ok hP hm hN ?_
            refine g1 ?_
            refine g1 ?_
            refine g1 ?_
            refine g1 ?_
            refine g1 ?_
            refine g1 ?_
            refine g1 ?_
            refine ga1 ?_
            refine g1 ?_
            refine r1 T0_ok hP hm hN ?_
            refine g1 ?_
            refine g1 ?_
            refine g1 ?_
            refine ⟨(splP 32 s).length - (i + 1), _, by omega, (by rw [mapF_succ (d := baZ) wV hlti, mvs_app, hwv]; exact Weak.trans (weak_drop 3) (Weak.trans (weak_drop 2) (Weak.trans (weak_nx (nx' := 2) (by omega) (by rfl)) (weak_sl (sub_cons rfl (sub_cons rfl (sub_cons rfl (sub_nil)))))))), i + 1, by omega, upto_step hall hwk, rfl, rfl⟩
      · skip
        have hge0 : ¬ i < (splP 32 s).length := by simpa using hc2
        have heqi : i = (splP 32 s).length := by omega
        have hr := readS_good hne hl2 (fun j hj => hall j (by omega))
        rw [heqi, mapF_all]
        refine awp_exit ?_
        repeat refine thenA_exit ?_
        refine blockA_hit ?_
        refine awp_seq ?_
        refine r1 T0_ok hP hm hN ?_
        refine g1 ?_
        refine g1 ?_
        refine g1 ?_
        refine awp_ret ?_
        refine fin_mk [0] rfl rfl ?_ (by simp only [hr]; exact objs_cons rfl rfl rfl rfl rfl (.inl rfl) objs_nil) (by decide)
        show D.tup [.own 0, .val (.int .i64 (readS s.data.toList).2)] = _
        rw [hr]
        rfl
end Go.Proofs.YtoincpeodnmfmaaDoor.Abs
