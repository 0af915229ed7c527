import Derived.Test.YtoincpeodnmfmaaDoorH1
set_option linter.unusedVariables false
set_option linter.unusedSimpArgs false
namespace Go.Proofs.YtoincpeodnmfmaaDoor.Abs
open Go Go.RowKit
noncomputable abbrev s_I_ReadHeights : Spec ByteArray where
  args := fun s => [.val (.string s)]
  pre := fun s => s.size ≤ 1048576
  new := fun s => [⟨2, 1, false, i64s (rhI s).2.1⟩]
  res := fun s => .tup [.val (.agg #[.int .i16 (rhI s).1.1, .int .i16 (rhI s).1.2.1, .int .i16 (rhI s).1.2.2]), .own 0, .val (.int .i64 (rhI s).2.2)]

set_option maxRecDepth 20000 in
set_option maxHeartbeats 8000000 in
theorem ok_I_ReadHeights : FnOk Pr 11 s_I_ReadHeights := by
  refine fn_ok 1 0 T0_ok Go.Proofs.Tryd.func11 rfl (enters_of Go.Proofs.Tryd.func11 rfl rfl) (fun _ => rfl) (fun _ => rfl) (fun _ => rfl) ?_
  rintro s hs C hP hN hm hG
  change awp C _ _ ⟨[(0, .val (.string s))], [], 0⟩
  have hs : s.size ≤ 1048576 := hs
  have hsl := splP_len 32 s
  refine awp_seq ?_
  refine r1 T0_ok hP hm hN ?_
  refine g1 ?_
  refine g1 ?_
  refine g1 ?_
  refine awp_seq ?_
  refine r1 T0_ok hP hm hN ?_
  refine g1 ?_
  refine gc1 ?_ (call1 ok_strings_Split s [] (hpre := by (try dsimp only); exact hs) (hfo := by intro o ho; simp only [List.nil_append, List.mem_singleton] at ho; subst ho; exact flat_strs _ _ _ _))
  refine g1 ?_
  refine awp_seq ?_
  refine awp_seq ?_
  refine r1 T0_ok hP hm hN ?_
  refine g1 ?_
  refine g1 ?_
  refine gc1 ?_ (call1 ok_I_within_int (_, _, _) [])
  refine g1 ?_
  refine awp_cond rfl (fun hc0 => ?_) (fun hc0 => ?_)
  · skip
    have hr : rhI s = badH := rhI_few (by have h := hc0; simp [inI] at h; omega)
    refine awp_seq ?_
    refine r1 T0_ok hP hm hN ?_
    refine g1 ?_
    refine g1 ?_
    refine g1 ?_
    refine g1 ?_
    refine awp_weak (weak_nil 3 2 1 rfl) ?_
    refine awp_ret ?_
    refine fin_mk [2] rfl rfl ?_ (by simp only [hr]; exact objs_cons rfl rfl rfl rfl rfl (.inl rfl) objs_nil) (by decide)
    show D.tup [.val (.agg #[.int .i16 (rhI s).1.1, .int .i16 (rhI s).1.2.1, .int .i16 (rhI s).1.2.2]), .own 2, .val (.int .i64 (rhI s).2.2)] = _
    rw [hr]
    rfl
  · skip
    have hl4 : 4 ≤ (splP 32 s).length ∧ (splP 32 s).length ≤ 9 := by have h := hc0; rw [Bool.not_eq_false'] at h; have := inI_iff.1 h; omega
    have hrc := rhI_cond hl4
    have hz0 := splP_sz (getD_mem' (d := baZ) (show 0 < (splP 32 s).length by omega))
    have hg0 := strs_get (splP 32 s) 0 (by omega)
    have hq0 := shW_in ((splP 32 s).getD 0 baZ)
    have hz1 := splP_sz (getD_mem' (d := baZ) (show 1 < (splP 32 s).length by omega))
    have hg1 := strs_get (splP 32 s) 1 (by omega)
    have hq1 := shW_in ((splP 32 s).getD 1 baZ)
    have hz2 := splP_sz (getD_mem' (d := baZ) (show 2 < (splP 32 s).length by omega))
    have hg2 := strs_get (splP 32 s) 2 (by omega)
    have hq2 := shW_in ((splP 32 s).getD 2 baZ)
    have hpg : isPegs ((shW ((splP 32 s).getD 0 baZ)), (shW ((splP 32 s).getD 1 baZ)), (shW ((splP 32 s).getD 2 baZ))) := by unfold isPegs; dsimp only; omega
    refine awp_skip ?_
    refine awp_seq ?_
    refine awp_join (st1 := ⟨[(6, .ptr 2 0 0), (5, .own 1), (4, .val (.int .i64 0)), (3, .nil), (2, .ptr 0 0 0), (0, .val (.string s))], [(2, ⟨30, 3, true, [[.val (.int .i16 (shW ((splP 32 s).getD 0 baZ))), .val (.int .i16 (shW ((splP 32 s).getD 1 baZ))), .val (.int .i16 (shW ((splP 32 s).getD 2 baZ)))]]⟩), (1, ⟨9, 1, false, strs (splP 32 s)⟩), (0, ⟨30, 3, true, [[.val (.int .i16 0), .val (.int .i16 0), .val (.int .i16 0)]]⟩)], 3⟩) ?_ ?_
    · skip
      refine awp_any hP Pr_mix _ rfl 15 rfl ?_
      refine anyS_cut (fuel' := 0) (listed' := #[true, true, true, true, true, true, true, true, true, true, true, true, true, true, true]) (st' := ⟨[(6, .ptr 2 0 0), (5, .own 1), (4, .val (.int .i64 0)), (3, .nil), (2, .ptr 0 0 0), (0, .val (.string s))], [(2, ⟨30, 3, true, [[.val (.int .i16 (shW ((splP 32 s).getD 0 baZ))), .val (.int .i16 (shW ((splP 32 s).getD 1 baZ))), .val (.int .i16 (shW ((splP 32 s).getD 2 baZ)))]]⟩), (1, ⟨9, 1, false, strs (splP 32 s)⟩), (0, ⟨30, 3, true, [[.val (.int .i16 0), .val (.int .i16 0), .val (.int .i16 0)]]⟩)], 3⟩) ?_ (fun hS0 => ?_)
      · skip
        refine anyS_done (by rfl) ?_
        exact ⟨rfl, rfl⟩
      refine anyS_cut (fuel' := 1) (listed' := #[true, true, true, true, true, true, true, true, true, true, true, true, true, true, false]) (st' := ⟨[(27, .val (.agg #[.int .i16 (shW ((splP 32 s).getD 0 baZ)), .int .i16 (shW ((splP 32 s).getD 1 baZ)), .int .i16 (shW ((splP 32 s).getD 2 baZ))])), (6, .ptr 2 0 0), (5, .own 1), (4, .val (.int .i64 0)), (3, .nil), (2, .ptr 0 0 0), (0, .val (.string s))], [(2, ⟨30, 3, true, [[.val (.int .i16 0), .val (.int .i16 0), .val (.int .i16 0)]]⟩), (1, ⟨9, 1, false, strs (splP 32 s)⟩), (0, ⟨30, 3, true, [[.val (.int .i16 0), .val (.int .i16 0), .val (.int .i16 0)]]⟩)], 3⟩) ?_ (fun hS1 => ?_)
      · skip
        refine anyS_cons T0_ok hP hm hN (by rfl) [14] (by rfl) rfl ?_
        refine ⟨⟨_, rfl, rfl, ?_⟩, trivial⟩
        refine g1 ?_
        exact anyS_weak (st' := ⟨[(6, .ptr 2 0 0), (5, .own 1), (4, .val (.int .i64 0)), (3, .nil), (2, .ptr 0 0 0), (0, .val (.string s))], [(2, ⟨30, 3, true, [[.val (.int .i16 (shW ((splP 32 s).getD 0 baZ))), .val (.int .i16 (shW ((splP 32 s).getD 1 baZ))), .val (.int .i16 (shW ((splP 32 s).getD 2 baZ)))]]⟩), (1, ⟨9, 1, false, strs (splP 32 s)⟩), (0, ⟨30, 3, true, [[.val (.int .i16 0), .val (.int .i16 0), .val (.int .i16 0)]]⟩)], 3⟩) (by exact weak_sl (sub_cons rfl (sub_cons rfl (sub_cons rfl (sub_cons rfl (sub_cons rfl (sub_cons rfl (sub_nil)))))))) hS0
      refine anyS_cut (fuel' := 2) (listed' := #[true, true, true, true, true, true, true, true, true, true, true, true, true, false, false]) (st' := ⟨[(27, .val (.agg #[.int .i16 (shW ((splP 32 s).getD 0 baZ)), .int .i16 (shW ((splP 32 s).getD 1 baZ)), .int .i16 (shW ((splP 32 s).getD 2 baZ))])), (5, .own 1), (4, .val (.int .i64 0)), (3, .nil), (2, .ptr 0 0 0), (0, .val (.string s))], [(1, ⟨9, 1, false, strs (splP 32 s)⟩), (0, ⟨30, 3, true, [[.val (.int .i16 0), .val (.int .i16 0), .val (.int .i16 0)]]⟩)], 2⟩) ?_ (fun hS2 => ?_)
      · skip
        refine anyS_cons T0_ok hP hm hN (by rfl) [13] (by rfl) rfl ?_
        refine ⟨⟨_, rfl, rfl, ?_⟩, trivial⟩
        refine g1 ?_
        exact anyS_weak (st' := ⟨[(27, .val (.agg #[.int .i16 (shW ((splP 32 s).getD 0 baZ)), .int .i16 (shW ((splP 32 s).getD 1 baZ)), .int .i16 (shW ((splP 32 s).getD 2 baZ))])), (6, .ptr 2 0 0), (5, .own 1), (4, .val (.int .i64 0)), (3, .nil), (2, .ptr 0 0 0), (0, .val (.string s))], [(2, ⟨30, 3, true, [[.val (.int .i16 0), .val (.int .i16 0), .val (.int .i16 0)]]⟩), (1, ⟨9, 1, false, strs (splP 32 s)⟩), (0, ⟨30, 3, true, [[.val (.int .i16 0), .val (.int .i16 0), .val (.int .i16 0)]]⟩)], 3⟩) (by exact weak_sl (sub_cons rfl (sub_cons rfl (sub_cons rfl (sub_cons rfl (sub_cons rfl (sub_cons rfl (sub_cons rfl (sub_nil))))))))) hS1
      refine anyS_cut (fuel' := 2) (listed' := #[true, true, true, true, true, true, true, true, true, true, true, true, false, true, false]) (st' := ⟨[(18, .val (.int .i16 (shW ((splP 32 s).getD 0 baZ)))), (22, .val (.int .i16 (shW ((splP 32 s).getD 1 baZ)))), (26, .val (.int .i16 (shW ((splP 32 s).getD 2 baZ)))), (6, .ptr 2 0 0), (5, .own 1), (4, .val (.int .i64 0)), (3, .nil), (2, .ptr 0 0 0), (0, .val (.string s))], [(2, ⟨30, 3, true, [[.val (.int .i16 0), .val (.int .i16 0), .val (.int .i16 0)]]⟩), (1, ⟨9, 1, false, strs (splP 32 s)⟩), (0, ⟨30, 3, true, [[.val (.int .i16 0), .val (.int .i16 0), .val (.int .i16 0)]]⟩)], 3⟩) ?_ (fun hS3 => ?_)
      · skip
        refine anyS_cons T0_ok hP hm hN (by rfl) [12] (by rfl) rfl ?_
        refine ⟨⟨_, rfl, rfl, ?_⟩, trivial⟩
        refine g1 ?_
        exact anyS_weak (st' := ⟨[(27, .val (.agg #[.int .i16 (shW ((splP 32 s).getD 0 baZ)), .int .i16 (shW ((splP 32 s).getD 1 baZ)), .int .i16 (shW ((splP 32 s).getD 2 baZ))])), (6, .ptr 2 0 0), (5, .own 1), (4, .val (.int .i64 0)), (3, .nil), (2, .ptr 0 0 0), (0, .val (.string s))], [(2, ⟨30, 3, true, [[.val (.int .i16 0), .val (.int .i16 0), .val (.int .i16 0)]]⟩), (1, ⟨9, 1, false, strs (splP 32 s)⟩), (0, ⟨30, 3, true, [[.val (.int .i16 0), .val (.int .i16 0), .val (.int .i16 0)]]⟩)], 3⟩) (by exact weak_sl (sub_cons rfl (sub_cons rfl (sub_cons rfl (sub_cons rfl (sub_cons rfl (sub_cons rfl (sub_cons rfl (sub_nil))))))))) hS1
      refine anyS_cut (fuel' := 3) (listed' := #[true, true, true, true, true, true, true, true, true, true, true, true, false, false, false]) (st' := ⟨[(18, .val (.int .i16 (shW ((splP 32 s).getD 0 baZ)))), (22, .val (.int .i16 (shW ((splP 32 s).getD 1 baZ)))), (26, .val (.int .i16 (shW ((splP 32 s).getD 2 baZ)))), (5, .own 1), (4, .val (.int .i64 0)), (3, .nil), (2, .ptr 0 0 0), (0, .val (.string s))], [(1, ⟨9, 1, false, strs (splP 32 s)⟩), (0, ⟨30, 3, true, [[.val (.int .i16 0), .val (.int .i16 0), .val (.int .i16 0)]]⟩)], 2⟩) ?_ (fun hS4 => ?_)
      · skip
        refine anyS_cons T0_ok hP hm hN (by rfl) [12, 13] (by rfl) rfl ?_
        refine ⟨⟨_, rfl, rfl, ?_⟩, ?_⟩
        · skip
          refine g1 ?_
          exact anyS_weak (st' := ⟨[(27, .val (.agg #[.int .i16 (shW ((splP 32 s).getD 0 baZ)), .int .i16 (shW ((splP 32 s).getD 1 baZ)), .int .i16 (shW ((splP 32 s).getD 2 baZ))])), (5, .own 1), (4, .val (.int .i64 0)), (3, .nil), (2, .ptr 0 0 0), (0, .val (.string s))], [(1, ⟨9, 1, false, strs (splP 32 s)⟩), (0, ⟨30, 3, true, [[.val (.int .i16 0), .val (.int .i16 0), .val (.int .i16 0)]]⟩)], 2⟩) (by exact weak_sl (sub_cons rfl (sub_cons rfl (sub_cons rfl (sub_cons rfl (sub_cons rfl (sub_cons rfl (sub_nil)))))))) hS2
        refine ⟨⟨_, rfl, rfl, ?_⟩, trivial⟩
        refine g1 ?_
        exact anyS_weak (st' := ⟨[(18, .val (.int .i16 (shW ((splP 32 s).getD 0 baZ)))), (22, .val (.int .i16 (shW ((splP 32 s).getD 1 baZ)))), (26, .val (.int .i16 (shW ((splP 32 s).getD 2 baZ)))), (6, .ptr 2 0 0), (5, .own 1), (4, .val (.int .i64 0)), (3, .nil), (2, .ptr 0 0 0), (0, .val (.string s))], [(2, ⟨30, 3, true, [[.val (.int .i16 0), .val (.int .i16 0), .val (.int .i16 0)]]⟩), (1, ⟨9, 1, false, strs (splP 32 s)⟩), (0, ⟨30, 3, true, [[.val (.int .i16 0), .val (.int .i16 0), .val (.int .i16 0)]]⟩)], 3⟩) (by exact weak_sl (sub_cons rfl (sub_cons rfl (sub_cons rfl (sub_cons rfl (sub_cons rfl (sub_cons rfl (sub_cons rfl (sub_cons rfl (sub_cons rfl (sub_nil))))))))))) hS3
      refine anyS_cut (fuel' := 3) (listed' := #[true, true, true, true, true, true, true, true, true, true, true, false, false, true, false]) (st' := ⟨[(18, .val (.int .i16 (shW ((splP 32 s).getD 0 baZ)))), (22, .val (.int .i16 (shW ((splP 32 s).getD 1 baZ)))), (25, .val (.string ((splP 32 s).getD 2 baZ))), (6, .ptr 2 0 0), (5, .own 1), (4, .val (.int .i64 0)), (3, .nil), (2, .ptr 0 0 0), (0, .val (.string s))], [(2, ⟨30, 3, true, [[.val (.int .i16 0), .val (.int .i16 0), .val (.int .i16 0)]]⟩), (1, ⟨9, 1, false, strs (splP 32 s)⟩), (0, ⟨30, 3, true, [[.val (.int .i16 0), .val (.int .i16 0), .val (.int .i16 0)]]⟩)], 3⟩) ?_ (fun hS5 => ?_)
      · skip
        refine anyS_cons T0_ok hP hm hN (by rfl) [11] (by rfl) rfl ?_
        refine ⟨⟨_, rfl, rfl, ?_⟩, trivial⟩
        refine gc1 ?_ (call1 ok_I_short ((splP 32 s).getD 2 baZ) [] (hpre := by (try dsimp only); omega))
        exact anyS_weak (st' := ⟨[(18, .val (.int .i16 (shW ((splP 32 s).getD 0 baZ)))), (22, .val (.int .i16 (shW ((splP 32 s).getD 1 baZ)))), (26, .val (.int .i16 (shW ((splP 32 s).getD 2 baZ)))), (6, .ptr 2 0 0), (5, .own 1), (4, .val (.int .i64 0)), (3, .nil), (2, .ptr 0 0 0), (0, .val (.string s))], [(2, ⟨30, 3, true, [[.val (.int .i16 0), .val (.int .i16 0), .val (.int .i16 0)]]⟩), (1, ⟨9, 1, false, strs (splP 32 s)⟩), (0, ⟨30, 3, true, [[.val (.int .i16 0), .val (.int .i16 0), .val (.int .i16 0)]]⟩)], 3⟩) (by exact weak_sl (sub_cons rfl (sub_cons rfl (sub_cons rfl (sub_cons rfl (sub_cons rfl (sub_cons rfl (sub_cons rfl (sub_cons rfl (sub_cons rfl (sub_nil))))))))))) hS3
      refine anyS_cut (fuel' := 4) (listed' := #[true, true, true, true, true, true, true, true, true, true, true, false, false, false, false]) (st' := ⟨[(18, .val (.int .i16 (shW ((splP 32 s).getD 0 baZ)))), (22, .val (.int .i16 (shW ((splP 32 s).getD 1 baZ)))), (25, .val (.string ((splP 32 s).getD 2 baZ))), (5, .own 1), (4, .val (.int .i64 0)), (3, .nil), (2, .ptr 0 0 0), (0, .val (.string s))], [(1, ⟨9, 1, false, strs (splP 32 s)⟩), (0, ⟨30, 3, true, [[.val (.int .i16 0), .val (.int .i16 0), .val (.int .i16 0)]]⟩)], 2⟩) ?_ (fun hS6 => ?_)
      · skip
        refine anyS_cons T0_ok hP hm hN (by rfl) [11, 13] (by rfl) rfl ?_
        refine ⟨⟨_, rfl, rfl, ?_⟩, ?_⟩
        · skip
          refine gc1 ?_ (call1 ok_I_short ((splP 32 s).getD 2 baZ) [] (hpre := by (try dsimp only); omega))
          exact anyS_weak (st' := ⟨[(18, .val (.int .i16 (shW ((splP 32 s).getD 0 baZ)))), (22, .val (.int .i16 (shW ((splP 32 s).getD 1 baZ)))), (26, .val (.int .i16 (shW ((splP 32 s).getD 2 baZ)))), (5, .own 1), (4, .val (.int .i64 0)), (3, .nil), (2, .ptr 0 0 0), (0, .val (.string s))], [(1, ⟨9, 1, false, strs (splP 32 s)⟩), (0, ⟨30, 3, true, [[.val (.int .i16 0), .val (.int .i16 0), .val (.int .i16 0)]]⟩)], 2⟩) (by exact weak_sl (sub_cons rfl (sub_cons rfl (sub_cons rfl (sub_cons rfl (sub_cons rfl (sub_cons rfl (sub_cons rfl (sub_cons rfl (sub_nil)))))))))) hS4
        refine ⟨⟨_, rfl, rfl, ?_⟩, trivial⟩
        refine g1 ?_
        exact anyS_weak (st' := ⟨[(18, .val (.int .i16 (shW ((splP 32 s).getD 0 baZ)))), (22, .val (.int .i16 (shW ((splP 32 s).getD 1 baZ)))), (25, .val (.string ((splP 32 s).getD 2 baZ))), (6, .ptr 2 0 0), (5, .own 1), (4, .val (.int .i64 0)), (3, .nil), (2, .ptr 0 0 0), (0, .val (.string s))], [(2, ⟨30, 3, true, [[.val (.int .i16 0), .val (.int .i16 0), .val (.int .i16 0)]]⟩), (1, ⟨9, 1, false, strs (splP 32 s)⟩), (0, ⟨30, 3, true, [[.val (.int .i16 0), .val (.int .i16 0), .val (.int .i16 0)]]⟩)], 3⟩) (by exact weak_sl (sub_cons rfl (sub_cons rfl (sub_cons rfl (sub_cons rfl (sub_cons rfl (sub_cons rfl (sub_cons rfl (sub_cons rfl (sub_cons rfl (sub_nil))))))))))) hS5
      refine anyS_cut (fuel' := 4) (listed' := #[true, true, true, true, true, true, true, true, true, true, false, false, false, true, false]) (st' := ⟨[(18, .val (.int .i16 (shW ((splP 32 s).getD 0 baZ)))), (22, .val (.int .i16 (shW ((splP 32 s).getD 1 baZ)))), (24, .ptr 1 2 0), (6, .ptr 2 0 0), (5, .own 1), (4, .val (.int .i64 0)), (3, .nil), (2, .ptr 0 0 0), (0, .val (.string s))], [(2, ⟨30, 3, true, [[.val (.int .i16 0), .val (.int .i16 0), .val (.int .i16 0)]]⟩), (1, ⟨9, 1, false, strs (splP 32 s)⟩), (0, ⟨30, 3, true, [[.val (.int .i16 0), .val (.int .i16 0), .val (.int .i16 0)]]⟩)], 3⟩) ?_ (fun hS7 => ?_)
      · skip
        refine anyS_cons T0_ok hP hm hN (by rfl) [10] (by rfl) rfl ?_
        refine ⟨⟨_, rfl, rfl, ?_⟩, trivial⟩
        refine g1 ?_
        exact anyS_weak (st' := ⟨[(18, .val (.int .i16 (shW ((splP 32 s).getD 0 baZ)))), (22, .val (.int .i16 (shW ((splP 32 s).getD 1 baZ)))), (25, .val (.string ((splP 32 s).getD 2 baZ))), (6, .ptr 2 0 0), (5, .own 1), (4, .val (.int .i64 0)), (3, .nil), (2, .ptr 0 0 0), (0, .val (.string s))], [(2, ⟨30, 3, true, [[.val (.int .i16 0), .val (.int .i16 0), .val (.int .i16 0)]]⟩), (1, ⟨9, 1, false, strs (splP 32 s)⟩), (0, ⟨30, 3, true, [[.val (.int .i16 0), .val (.int .i16 0), .val (.int .i16 0)]]⟩)], 3⟩) (by exact weak_sl (sub_cons rfl (sub_cons rfl (sub_cons rfl (sub_cons rfl (sub_cons rfl (sub_cons rfl (sub_cons rfl (sub_cons rfl (sub_cons rfl (sub_nil))))))))))) hS5
      refine anyS_cut (fuel' := 4) (listed' := #[true, true, true, true, true, true, true, false, true, true, true, false, false, true, false]) (st' := ⟨[(18, .val (.int .i16 (shW ((splP 32 s).getD 0 baZ)))), (21, .val (.string ((splP 32 s).getD 1 baZ))), (25, .val (.string ((splP 32 s).getD 2 baZ))), (6, .ptr 2 0 0), (5, .own 1), (4, .val (.int .i64 0)), (3, .nil), (2, .ptr 0 0 0), (0, .val (.string s))], [(2, ⟨30, 3, true, [[.val (.int .i16 0), .val (.int .i16 0), .val (.int .i16 0)]]⟩), (1, ⟨9, 1, false, strs (splP 32 s)⟩), (0, ⟨30, 3, true, [[.val (.int .i16 0), .val (.int .i16 0), .val (.int .i16 0)]]⟩)], 3⟩) ?_ (fun hS8 => ?_)
      · skip
        refine anyS_cons T0_ok hP hm hN (by rfl) [7] (by rfl) rfl ?_
        refine ⟨⟨_, rfl, rfl, ?_⟩, trivial⟩
        refine gc1 ?_ (call1 ok_I_short ((splP 32 s).getD 1 baZ) [] (hpre := by (try dsimp only); omega))
        exact anyS_weak (st' := ⟨[(18, .val (.int .i16 (shW ((splP 32 s).getD 0 baZ)))), (22, .val (.int .i16 (shW ((splP 32 s).getD 1 baZ)))), (25, .val (.string ((splP 32 s).getD 2 baZ))), (6, .ptr 2 0 0), (5, .own 1), (4, .val (.int .i64 0)), (3, .nil), (2, .ptr 0 0 0), (0, .val (.string s))], [(2, ⟨30, 3, true, [[.val (.int .i16 0), .val (.int .i16 0), .val (.int .i16 0)]]⟩), (1, ⟨9, 1, false, strs (splP 32 s)⟩), (0, ⟨30, 3, true, [[.val (.int .i16 0), .val (.int .i16 0), .val (.int .i16 0)]]⟩)], 3⟩) (by exact weak_sl (sub_cons rfl (sub_cons rfl (sub_cons rfl (sub_cons rfl (sub_cons rfl (sub_cons rfl (sub_cons rfl (sub_cons rfl (sub_cons rfl (sub_nil))))))))))) hS5
      refine anyS_cut (fuel' := 5) (listed' := #[true, true, true, true, true, true, true, true, true, true, false, false, false, false, false]) (st' := ⟨[(18, .val (.int .i16 (shW ((splP 32 s).getD 0 baZ)))), (22, .val (.int .i16 (shW ((splP 32 s).getD 1 baZ)))), (24, .ptr 1 2 0), (5, .own 1), (4, .val (.int .i64 0)), (3, .nil), (2, .ptr 0 0 0), (0, .val (.string s))], [(1, ⟨9, 1, false, strs (splP 32 s)⟩), (0, ⟨30, 3, true, [[.val (.int .i16 0), .val (.int .i16 0), .val (.int .i16 0)]]⟩)], 2⟩) ?_ (fun hS9 => ?_)
      · skip
        refine anyS_cons T0_ok hP hm hN (by rfl) [10, 13] (by rfl) rfl ?_
        refine ⟨⟨_, rfl, rfl, ?_⟩, ?_⟩
        · skip
          refine g1 ?_
          exact anyS_weak (st' := ⟨[(18, .val (.int .i16 (shW ((splP 32 s).getD 0 baZ)))), (22, .val (.int .i16 (shW ((splP 32 s).getD 1 baZ)))), (25, .val (.string ((splP 32 s).getD 2 baZ))), (5, .own 1), (4, .val (.int .i64 0)), (3, .nil), (2, .ptr 0 0 0), (0, .val (.string s))], [(1, ⟨9, 1, false, strs (splP 32 s)⟩), (0, ⟨30, 3, true, [[.val (.int .i16 0), .val (.int .i16 0), .val (.int .i16 0)]]⟩)], 2⟩) (by exact weak_sl (sub_cons rfl (sub_cons rfl (sub_cons rfl (sub_cons rfl (sub_cons rfl (sub_cons rfl (sub_cons rfl (sub_cons rfl (sub_nil)))))))))) hS6
        refine ⟨⟨_, rfl, rfl, ?_⟩, trivial⟩
        refine g1 ?_
        exact anyS_weak (st' := ⟨[(18, .val (.int .i16 (shW ((splP 32 s).getD 0 baZ)))), (22, .val (.int .i16 (shW ((splP 32 s).getD 1 baZ)))), (24, .ptr 1 2 0), (6, .ptr 2 0 0), (5, .own 1), (4, .val (.int .i64 0)), (3, .nil), (2, .ptr 0 0 0), (0, .val (.string s))], [(2, ⟨30, 3, true, [[.val (.int .i16 0), .val (.int .i16 0), .val (.int .i16 0)]]⟩), (1, ⟨9, 1, false, strs (splP 32 s)⟩), (0, ⟨30, 3, true, [[.val (.int .i16 0), .val (.int .i16 0), .val (.int .i16 0)]]⟩)], 3⟩) (by exact weak_sl (sub_cons rfl (sub_cons rfl (sub_cons rfl (sub_cons rfl (sub_cons rfl (sub_cons rfl (sub_cons rfl (sub_cons rfl (sub_cons rfl (sub_nil))))))))))) hS7
      refine anyS_cut (fuel' := 5) (listed' := #[true, true, true, true, true, true, true, true, true, false, false, false, false, true, false]) (st' := ⟨[(18, .val (.int .i16 (shW ((splP 32 s).getD 0 baZ)))), (22, .val (.int .i16 (shW ((splP 32 s).getD 1 baZ)))), (23, .own 1), (6, .ptr 2 0 0), (5, .own 1), (4, .val (.int .i64 0)), (3, .nil), (2, .ptr 0 0 0), (0, .val (.string s))], [(2, ⟨30, 3, true, [[.val (.int .i16 0), .val (.int .i16 0), .val (.int .i16 0)]]⟩), (1, ⟨9, 1, false, strs (splP 32 s)⟩), (0, ⟨30, 3, true, [[.val (.int .i16 0), .val (.int .i16 0), .val (.int .i16 0)]]⟩)], 3⟩) ?_ (fun hS10 => ?_)
      · skip
        refine anyS_cons T0_ok hP hm hN (by rfl) [9] (by rfl) rfl ?_
        refine ⟨⟨_, rfl, rfl, ?_⟩, trivial⟩
        refine g1 ?_
        exact anyS_weak (st' := ⟨[(18, .val (.int .i16 (shW ((splP 32 s).getD 0 baZ)))), (22, .val (.int .i16 (shW ((splP 32 s).getD 1 baZ)))), (24, .ptr 1 2 0), (6, .ptr 2 0 0), (5, .own 1), (4, .val (.int .i64 0)), (3, .nil), (2, .ptr 0 0 0), (0, .val (.string s))], [(2, ⟨30, 3, true, [[.val (.int .i16 0), .val (.int .i16 0), .val (.int .i16 0)]]⟩), (1, ⟨9, 1, false, strs (splP 32 s)⟩), (0, ⟨30, 3, true, [[.val (.int .i16 0), .val (.int .i16 0), .val (.int .i16 0)]]⟩)], 3⟩) (by exact weak_sl (sub_cons rfl (sub_cons rfl (sub_cons rfl (sub_cons rfl (sub_cons rfl (sub_cons rfl (sub_cons rfl (sub_cons rfl (sub_cons rfl (sub_nil))))))))))) hS7
      refine anyS_cut (fuel' := 5) (listed' := #[true, true, true, true, true, true, true, false, true, true, true, false, false, false, false]) (st' := ⟨[(18, .val (.int .i16 (shW ((splP 32 s).getD 0 baZ)))), (21, .val (.string ((splP 32 s).getD 1 baZ))), (25, .val (.string ((splP 32 s).getD 2 baZ))), (5, .own 1), (4, .val (.int .i64 0)), (3, .nil), (2, .ptr 0 0 0), (0, .val (.string s))], [(1, ⟨9, 1, false, strs (splP 32 s)⟩), (0, ⟨30, 3, true, [[.val (.int .i16 0), .val (.int .i16 0), .val (.int .i16 0)]]⟩)], 2⟩) ?_ (fun hS11 => ?_)
      · skip
        refine anyS_cons T0_ok hP hm hN (by rfl) [7, 13] (by rfl) rfl ?_
        refine ⟨⟨_, rfl, rfl, ?_⟩, ?_⟩
        · skip
          refine gc1 ?_ (call1 ok_I_short ((splP 32 s).getD 1 baZ) [] (hpre := by (try dsimp only); omega))
          exact anyS_weak (st' := ⟨[(18, .val (.int .i16 (shW ((splP 32 s).getD 0 baZ)))), (22, .val (.int .i16 (shW ((splP 32 s).getD 1 baZ)))), (25, .val (.string ((splP 32 s).getD 2 baZ))), (5, .own 1), (4, .val (.int .i64 0)), (3, .nil), (2, .ptr 0 0 0), (0, .val (.string s))], [(1, ⟨9, 1, false, strs (splP 32 s)⟩), (0, ⟨30, 3, true, [[.val (.int .i16 0), .val (.int .i16 0), .val (.int .i16 0)]]⟩)], 2⟩) (by exact weak_sl (sub_cons rfl (sub_cons rfl (sub_cons rfl (sub_cons rfl (sub_cons rfl (sub_cons rfl (sub_cons rfl (sub_cons rfl (sub_nil)))))))))) hS6
        refine ⟨⟨_, rfl, rfl, ?_⟩, trivial⟩
        refine g1 ?_
        exact anyS_weak (st' := ⟨[(18, .val (.int .i16 (shW ((splP 32 s).getD 0 baZ)))), (21, .val (.string ((splP 32 s).getD 1 baZ))), (25, .val (.string ((splP 32 s).getD 2 baZ))), (6, .ptr 2 0 0), (5, .own 1), (4, .val (.int .i64 0)), (3, .nil), (2, .ptr 0 0 0), (0, .val (.string s))], [(2, ⟨30, 3, true, [[.val (.int .i16 0), .val (.int .i16 0), .val (.int .i16 0)]]⟩), (1, ⟨9, 1, false, strs (splP 32 s)⟩), (0, ⟨30, 3, true, [[.val (.int .i16 0), .val (.int .i16 0), .val (.int .i16 0)]]⟩)], 3⟩) (by exact weak_sl (sub_cons rfl (sub_cons rfl (sub_cons rfl (sub_cons rfl (sub_cons rfl (sub_cons rfl (sub_cons rfl (sub_cons rfl (sub_cons rfl (sub_nil))))))))))) hS8
      refine anyS_cut (fuel' := 5) (listed' := #[true, true, true, true, true, true, true, false, true, true, false, false, false, true, false]) (st' := ⟨[(18, .val (.int .i16 (shW ((splP 32 s).getD 0 baZ)))), (21, .val (.string ((splP 32 s).getD 1 baZ))), (24, .ptr 1 2 0), (6, .ptr 2 0 0), (5, .own 1), (4, .val (.int .i64 0)), (3, .nil), (2, .ptr 0 0 0), (0, .val (.string s))], [(2, ⟨30, 3, true, [[.val (.int .i16 0), .val (.int .i16 0), .val (.int .i16 0)]]⟩), (1, ⟨9, 1, false, strs (splP 32 s)⟩), (0, ⟨30, 3, true, [[.val (.int .i16 0), .val (.int .i16 0), .val (.int .i16 0)]]⟩)], 3⟩) ?_ (fun hS12 => ?_)
      · skip
        refine anyS_cons T0_ok hP hm hN (by rfl) [7, 10] (by rfl) rfl ?_
        refine ⟨⟨_, rfl, rfl, ?_⟩, ?_⟩
        · skip
          refine gc1 ?_ (call1 ok_I_short ((splP 32 s).getD 1 baZ) [] (hpre := by (try dsimp only); omega))
          exact anyS_weak (st' := ⟨[(18, .val (.int .i16 (shW ((splP 32 s).getD 0 baZ)))), (22, .val (.int .i16 (shW ((splP 32 s).getD 1 baZ)))), (24, .ptr 1 2 0), (6, .ptr 2 0 0), (5, .own 1), (4, .val (.int .i64 0)), (3, .nil), (2, .ptr 0 0 0), (0, .val (.string s))], [(2, ⟨30, 3, true, [[.val (.int .i16 0), .val (.int .i16 0), .val (.int .i16 0)]]⟩), (1, ⟨9, 1, false, strs (splP 32 s)⟩), (0, ⟨30, 3, true, [[.val (.int .i16 0), .val (.int .i16 0), .val (.int .i16 0)]]⟩)], 3⟩) (by exact weak_sl (sub_cons rfl (sub_cons rfl (sub_cons rfl (sub_cons rfl (sub_cons rfl (sub_cons rfl (sub_cons rfl (sub_cons rfl (sub_cons rfl (sub_nil))))))))))) hS7
        refine ⟨⟨_, rfl, rfl, ?_⟩, trivial⟩
        refine g1 ?_
        exact anyS_weak (st' := ⟨[(18, .val (.int .i16 (shW ((splP 32 s).getD 0 baZ)))), (21, .val (.string ((splP 32 s).getD 1 baZ))), (25, .val (.string ((splP 32 s).getD 2 baZ))), (6, .ptr 2 0 0), (5, .own 1), (4, .val (.int .i64 0)), (3, .nil), (2, .ptr 0 0 0), (0, .val (.string s))], [(2, ⟨30, 3, true, [[.val (.int .i16 0), .val (.int .i16 0), .val (.int .i16 0)]]⟩), (1, ⟨9, 1, false, strs (splP 32 s)⟩), (0, ⟨30, 3, true, [[.val (.int .i16 0), .val (.int .i16 0), .val (.int .i16 0)]]⟩)], 3⟩) (by exact weak_sl (sub_cons rfl (sub_cons rfl (sub_cons rfl (sub_cons rfl (sub_cons rfl (sub_cons rfl (sub_cons rfl (sub_cons rfl (sub_cons rfl (sub_nil))))))))))) hS8
      refine anyS_cut (fuel' := 5) (listed' := #[true, true, true, true, true, true, false, false, true, true, true, false, false, true, false]) (st' := ⟨[(18, .val (.int .i16 (shW ((splP 32 s).getD 0 baZ)))), (20, .ptr 1 1 0), (25, .val (.string ((splP 32 s).getD 2 baZ))), (6, .ptr 2 0 0), (5, .own 1), (4, .val (.int .i64 0)), (3, .nil), (2, .ptr 0 0 0), (0, .val (.string s))], [(2, ⟨30, 3, true, [[.val (.int .i16 0), .val (.int .i16 0), .val (.int .i16 0)]]⟩), (1, ⟨9, 1, false, strs (splP 32 s)⟩), (0, ⟨30, 3, true, [[.val (.int .i16 0), .val (.int .i16 0), .val (.int .i16 0)]]⟩)], 3⟩) ?_ (fun hS13 => ?_)
      · skip
        refine anyS_cons T0_ok hP hm hN (by rfl) [6] (by rfl) rfl ?_
        refine ⟨⟨_, rfl, rfl, ?_⟩, trivial⟩
        refine g1 ?_
        exact anyS_weak (st' := ⟨[(18, .val (.int .i16 (shW ((splP 32 s).getD 0 baZ)))), (21, .val (.string ((splP 32 s).getD 1 baZ))), (25, .val (.string ((splP 32 s).getD 2 baZ))), (6, .ptr 2 0 0), (5, .own 1), (4, .val (.int .i64 0)), (3, .nil), (2, .ptr 0 0 0), (0, .val (.string s))], [(2, ⟨30, 3, true, [[.val (.int .i16 0), .val (.int .i16 0), .val (.int .i16 0)]]⟩), (1, ⟨9, 1, false, strs (splP 32 s)⟩), (0, ⟨30, 3, true, [[.val (.int .i16 0), .val (.int .i16 0), .val (.int .i16 0)]]⟩)], 3⟩) (by exact weak_sl (sub_cons rfl (sub_cons rfl (sub_cons rfl (sub_cons rfl (sub_cons rfl (sub_cons rfl (sub_cons rfl (sub_cons rfl (sub_cons rfl (sub_nil))))))))))) hS8
      refine anyS_cut (fuel' := 5) (listed' := #[true, true, true, false, true, true, true, false, true, true, true, false, false, true, false]) (st' := ⟨[(17, .val (.string ((splP 32 s).getD 0 baZ))), (21, .val (.string ((splP 32 s).getD 1 baZ))), (25, .val (.string ((splP 32 s).getD 2 baZ))), (6, .ptr 2 0 0), (5, .own 1), (4, .val (.int .i64 0)), (3, .nil), (2, .ptr 0 0 0), (0, .val (.string s))], [(2, ⟨30, 3, true, [[.val (.int .i16 0), .val (.int .i16 0), .val (.int .i16 0)]]⟩), (1, ⟨9, 1, false, strs (splP 32 s)⟩), (0, ⟨30, 3, true, [[.val (.int .i16 0), .val (.int .i16 0), .val (.int .i16 0)]]⟩)], 3⟩) ?_ (fun hS14 => ?_)
      · skip
        refine anyS_cons T0_ok hP hm hN (by rfl) [3] (by rfl) rfl ?_
        refine ⟨⟨_, rfl, rfl, ?_⟩, trivial⟩
        refine gc1 ?_ (call1 ok_I_short ((splP 32 s).getD 0 baZ) [] (hpre := by (try dsimp only); omega))
        exact anyS_weak (st' := ⟨[(18, .val (.int .i16 (shW ((splP 32 s).getD 0 baZ)))), (21, .val (.string ((splP 32 s).getD 1 baZ))), (25, .val (.string ((splP 32 s).getD 2 baZ))), (6, .ptr 2 0 0), (5, .own 1), (4, .val (.int .i64 0)), (3, .nil), (2, .ptr 0 0 0), (0, .val (.string s))], [(2, ⟨30, 3, true, [[.val (.int .i16 0), .val (.int .i16 0), .val (.int .i16 0)]]⟩), (1, ⟨9, 1, false, strs (splP 32 s)⟩), (0, ⟨30, 3, true, [[.val (.int .i16 0), .val (.int .i16 0), .val (.int .i16 0)]]⟩)], 3⟩) (by exact weak_sl (sub_cons rfl (sub_cons rfl (sub_cons rfl (sub_cons rfl (sub_cons rfl (sub_cons rfl (sub_cons rfl (sub_cons rfl (sub_cons rfl (sub_nil))))))))))) hS8
      refine anyS_cut (fuel' := 6) (listed' := #[true, true, true, true, true, true, true, true, true, false, false, false, false, false, false]) (st' := ⟨[(18, .val (.int .i16 (shW ((splP 32 s).getD 0 baZ)))), (22, .val (.int .i16 (shW ((splP 32 s).getD 1 baZ)))), (23, .own 1), (5, .own 1), (4, .val (.int .i64 0)), (3, .nil), (2, .ptr 0 0 0), (0, .val (.string s))], [(1, ⟨9, 1, false, strs (splP 32 s)⟩), (0, ⟨30, 3, true, [[.val (.int .i16 0), .val (.int .i16 0), .val (.int .i16 0)]]⟩)], 2⟩) ?_ (fun hS15 => ?_)
      · skip
        refine anyS_cons T0_ok hP hm hN (by rfl) [9, 13] (by rfl) rfl ?_
        refine ⟨⟨_, rfl, rfl, ?_⟩, ?_⟩
        · skip
          refine g1 ?_
          exact anyS_weak (st' := ⟨[(18, .val (.int .i16 (shW ((splP 32 s).getD 0 baZ)))), (22, .val (.int .i16 (shW ((splP 32 s).getD 1 baZ)))), (24, .ptr 1 2 0), (5, .own 1), (4, .val (.int .i64 0)), (3, .nil), (2, .ptr 0 0 0), (0, .val (.string s))], [(1, ⟨9, 1, false, strs (splP 32 s)⟩), (0, ⟨30, 3, true, [[.val (.int .i16 0), .val (.int .i16 0), .val (.int .i16 0)]]⟩)], 2⟩) (by exact weak_sl (sub_cons rfl (sub_cons rfl (sub_cons rfl (sub_cons rfl (sub_cons rfl (sub_cons rfl (sub_cons rfl (sub_cons rfl (sub_nil)))))))))) hS9
        refine ⟨⟨_, rfl, rfl, ?_⟩, trivial⟩
        refine g1 ?_
        exact anyS_weak (st' := ⟨[(18, .val (.int .i16 (shW ((splP 32 s).getD 0 baZ)))), (22, .val (.int .i16 (shW ((splP 32 s).getD 1 baZ)))), (23, .own 1), (6, .ptr 2 0 0), (5, .own 1), (4, .val (.int .i64 0)), (3, .nil), (2, .ptr 0 0 0), (0, .val (.string s))], [(2, ⟨30, 3, true, [[.val (.int .i16 0), .val (.int .i16 0), .val (.int .i16 0)]]⟩), (1, ⟨9, 1, false, strs (splP 32 s)⟩), (0, ⟨30, 3, true, [[.val (.int .i16 0), .val (.int .i16 0), .val (.int .i16 0)]]⟩)], 3⟩) (by exact weak_sl (sub_cons rfl (sub_cons rfl (sub_cons rfl (sub_cons rfl (sub_cons rfl (sub_cons rfl (sub_cons rfl (sub_cons rfl (sub_cons rfl (sub_nil))))))))))) hS10
      refine anyS_cut (fuel' := 6) (listed' := #[true, true, true, true, true, true, true, false, true, true, false, false, false, false, false]) (st' := ⟨[(18, .val (.int .i16 (shW ((splP 32 s).getD 0 baZ)))), (21, .val (.string ((splP 32 s).getD 1 baZ))), (24, .ptr 1 2 0), (5, .own 1), (4, .val (.int .i64 0)), (3, .nil), (2, .ptr 0 0 0), (0, .val (.string s))], [(1, ⟨9, 1, false, strs (splP 32 s)⟩), (0, ⟨30, 3, true, [[.val (.int .i16 0), .val (.int .i16 0), .val (.int .i16 0)]]⟩)], 2⟩) ?_ (fun hS16 => ?_)
      · skip
        refine anyS_cons T0_ok hP hm hN (by rfl) [7, 10, 13] (by rfl) rfl ?_
        refine ⟨⟨_, rfl, rfl, ?_⟩, ?_⟩
        · skip
          refine gc1 ?_ (call1 ok_I_short ((splP 32 s).getD 1 baZ) [] (hpre := by (try dsimp only); omega))
          exact anyS_weak (st' := ⟨[(18, .val (.int .i16 (shW ((splP 32 s).getD 0 baZ)))), (22, .val (.int .i16 (shW ((splP 32 s).getD 1 baZ)))), (24, .ptr 1 2 0), (5, .own 1), (4, .val (.int .i64 0)), (3, .nil), (2, .ptr 0 0 0), (0, .val (.string s))], [(1, ⟨9, 1, false, strs (splP 32 s)⟩), (0, ⟨30, 3, true, [[.val (.int .i16 0), .val (.int .i16 0), .val (.int .i16 0)]]⟩)], 2⟩) (by exact weak_sl (sub_cons rfl (sub_cons rfl (sub_cons rfl (sub_cons rfl (sub_cons rfl (sub_cons rfl (sub_cons rfl (sub_cons rfl (sub_nil)))))))))) hS9
        refine ⟨⟨_, rfl, rfl, ?_⟩, ?_⟩
        · skip
          refine g1 ?_
          exact anyS_weak (st' := ⟨[(18, .val (.int .i16 (shW ((splP 32 s).getD 0 baZ)))), (21, .val (.string ((splP 32 s).getD 1 baZ))), (25, .val (.string ((splP 32 s).getD 2 baZ))), (5, .own 1), (4, .val (.int .i64 0)), (3, .nil), (2, .ptr 0 0 0), (0, .val (.string s))], [(1, ⟨9, 1, false, strs (splP 32 s)⟩), (0, ⟨30, 3, true, [[.val (.int .i16 0), .val (.int .i16 0), .val (.int .i16 0)]]⟩)], 2⟩) (by exact weak_sl (sub_cons rfl (sub_cons rfl (sub_cons rfl (sub_cons rfl (sub_cons rfl (sub_cons rfl (sub_cons rfl (sub_cons rfl (sub_nil)))))))))) hS11
        refine ⟨⟨_, rfl, rfl, ?_⟩, trivial⟩
        refine g1 ?_
        exact anyS_weak (st' := ⟨[(18, .val (.int .i16 (shW ((splP 32 s).getD 0 baZ)))), (21, .val (.string ((splP 32 s).getD 1 baZ))), (24, .ptr 1 2 0), (6, .ptr 2 0 0), (5, .own 1), (4, .val (.int .i64 0)), (3, .nil), (2, .ptr 0 0 0), (0, .val (.string s))], [(2, ⟨30, 3, true, [[.val (.int .i16 0), .val (.int .i16 0), .val (.int .i16 0)]]⟩), (1, ⟨9, 1, false, strs (splP 32 s)⟩), (0, ⟨30, 3, true, [[.val (.int .i16 0), .val (.int .i16 0), .val (.int .i16 0)]]⟩)], 3⟩) (by exact weak_sl (sub_cons rfl (sub_cons rfl (sub_cons rfl (sub_cons rfl (sub_cons rfl (sub_cons rfl (sub_cons rfl (sub_cons rfl (sub_cons rfl (sub_nil))))))))))) hS12
      refine anyS_cut (fuel' := 6) (listed' := #[true, true, true, true, true, true, true, false, true, false, false, false, false, true, false]) (st' := ⟨[(18, .val (.int .i16 (shW ((splP 32 s).getD 0 baZ)))), (21, .val (.string ((splP 32 s).getD 1 baZ))), (23, .own 1), (6, .ptr 2 0 0), (5, .own 1), (4, .val (.int .i64 0)), (3, .nil), (2, .ptr 0 0 0), (0, .val (.string s))], [(2, ⟨30, 3, true, [[.val (.int .i16 0), .val (.int .i16 0), .val (.int .i16 0)]]⟩), (1, ⟨9, 1, false, strs (splP 32 s)⟩), (0, ⟨30, 3, true, [[.val (.int .i16 0), .val (.int .i16 0), .val (.int .i16 0)]]⟩)], 3⟩) ?_ (fun hS17 => ?_)
      · skip
        refine anyS_cons T0_ok hP hm hN (by rfl) [7, 9] (by rfl) rfl ?_
        refine ⟨⟨_, rfl, rfl, ?_⟩, ?_⟩
        · skip
          refine gc1 ?_ (call1 ok_I_short ((splP 32 s).getD 1 baZ) [] (hpre := by (try dsimp only); omega))
          exact anyS_weak (st' := ⟨[(18, .val (.int .i16 (shW ((splP 32 s).getD 0 baZ)))), (22, .val (.int .i16 (shW ((splP 32 s).getD 1 baZ)))), (23, .own 1), (6, .ptr 2 0 0), (5, .own 1), (4, .val (.int .i64 0)), (3, .nil), (2, .ptr 0 0 0), (0, .val (.string s))], [(2, ⟨30, 3, true, [[.val (.int .i16 0), .val (.int .i16 0), .val (.int .i16 0)]]⟩), (1, ⟨9, 1, false, strs (splP 32 s)⟩), (0, ⟨30, 3, true, [[.val (.int .i16 0), .val (.int .i16 0), .val (.int .i16 0)]]⟩)], 3⟩) (by exact weak_sl (sub_cons rfl (sub_cons rfl (sub_cons rfl (sub_cons rfl (sub_cons rfl (sub_cons rfl (sub_cons rfl (sub_cons rfl (sub_cons rfl (sub_nil))))))))))) hS10
        refine ⟨⟨_, rfl, rfl, ?_⟩, trivial⟩
        refine g1 ?_
        exact anyS_weak (st' := ⟨[(18, .val (.int .i16 (shW ((splP 32 s).getD 0 baZ)))), (21, .val (.string ((splP 32 s).getD 1 baZ))), (24, .ptr 1 2 0), (6, .ptr 2 0 0), (5, .own 1), (4, .val (.int .i64 0)), (3, .nil), (2, .ptr 0 0 0), (0, .val (.string s))], [(2, ⟨30, 3, true, [[.val (.int .i16 0), .val (.int .i16 0), .val (.int .i16 0)]]⟩), (1, ⟨9, 1, false, strs (splP 32 s)⟩), (0, ⟨30, 3, true, [[.val (.int .i16 0), .val (.int .i16 0), .val (.int .i16 0)]]⟩)], 3⟩) (by exact weak_sl (sub_cons rfl (sub_cons rfl (sub_cons rfl (sub_cons rfl (sub_cons rfl (sub_cons rfl (sub_cons rfl (sub_cons rfl (sub_cons rfl (sub_nil))))))))))) hS12
      refine anyS_cut (fuel' := 6) (listed' := #[true, true, true, true, true, true, false, false, true, true, true, false, false, false, false]) (st' := ⟨[(18, .val (.int .i16 (shW ((splP 32 s).getD 0 baZ)))), (20, .ptr 1 1 0), (25, .val (.string ((splP 32 s).getD 2 baZ))), (5, .own 1), (4, .val (.int .i64 0)), (3, .nil), (2, .ptr 0 0 0), (0, .val (.string s))], [(1, ⟨9, 1, false, strs (splP 32 s)⟩), (0, ⟨30, 3, true, [[.val (.int .i16 0), .val (.int .i16 0), .val (.int .i16 0)]]⟩)], 2⟩) ?_ (fun hS18 => ?_)
      · skip
        refine anyS_cons T0_ok hP hm hN (by rfl) [6, 13] (by rfl) rfl ?_
        refine ⟨⟨_, rfl, rfl, ?_⟩, ?_⟩
        · skip
          refine g1 ?_
          exact anyS_weak (st' := ⟨[(18, .val (.int .i16 (shW ((splP 32 s).getD 0 baZ)))), (21, .val (.string ((splP 32 s).getD 1 baZ))), (25, .val (.string ((splP 32 s).getD 2 baZ))), (5, .own 1), (4, .val (.int .i64 0)), (3, .nil), (2, .ptr 0 0 0), (0, .val (.string s))], [(1, ⟨9, 1, false, strs (splP 32 s)⟩), (0, ⟨30, 3, true, [[.val (.int .i16 0), .val (.int .i16 0), .val (.int .i16 0)]]⟩)], 2⟩) (by exact weak_sl (sub_cons rfl (sub_cons rfl (sub_cons rfl (sub_cons rfl (sub_cons rfl (sub_cons rfl (sub_cons rfl (sub_cons rfl (sub_nil)))))))))) hS11
        refine ⟨⟨_, rfl, rfl, ?_⟩, trivial⟩
        refine g1 ?_
        exact anyS_weak (st' := ⟨[(18, .val (.int .i16 (shW ((splP 32 s).getD 0 baZ)))), (20, .ptr 1 1 0), (25, .val (.string ((splP 32 s).getD 2 baZ))), (6, .ptr 2 0 0), (5, .own 1), (4, .val (.int .i64 0)), (3, .nil), (2, .ptr 0 0 0), (0, .val (.string s))], [(2, ⟨30, 3, true, [[.val (.int .i16 0), .val (.int .i16 0), .val (.int .i16 0)]]⟩), (1, ⟨9, 1, false, strs (splP 32 s)⟩), (0, ⟨30, 3, true, [[.val (.int .i16 0), .val (.int .i16 0), .val (.int .i16 0)]]⟩)], 3⟩) (by exact weak_sl (sub_cons rfl (sub_cons rfl (sub_cons rfl (sub_cons rfl (sub_cons rfl (sub_cons rfl (sub_cons rfl (sub_cons rfl (sub_cons rfl (sub_nil))))))))))) hS13
      refine anyS_cut (fuel' := 6) (listed' := #[true, true, true, true, true, true, false, false, true, true, false, false, false, true, false]) (st' := ⟨[(18, .val (.int .i16 (shW ((splP 32 s).getD 0 baZ)))), (20, .ptr 1 1 0), (24, .ptr 1 2 0), (6, .ptr 2 0 0), (5, .own 1), (4, .val (.int .i64 0)), (3, .nil), (2, .ptr 0 0 0), (0, .val (.string s))], [(2, ⟨30, 3, true, [[.val (.int .i16 0), .val (.int .i16 0), .val (.int .i16 0)]]⟩), (1, ⟨9, 1, false, strs (splP 32 s)⟩), (0, ⟨30, 3, true, [[.val (.int .i16 0), .val (.int .i16 0), .val (.int .i16 0)]]⟩)], 3⟩) ?_ (fun hS19 => ?_)
      · skip
        refine anyS_cons T0_ok hP hm hN (by rfl) [6, 10] (by rfl) rfl ?_
        refine ⟨⟨_, rfl, rfl, ?_⟩, ?_⟩
        · skip
          refine g1 ?_
          exact anyS_weak (st' := ⟨[(18, .val (.int .i16 (shW ((splP 32 s).getD 0 baZ)))), (21, .val (.string ((splP 32 s).getD 1 baZ))), (24, .ptr 1 2 0), (6, .ptr 2 0 0), (5, .own 1), (4, .val (.int .i64 0)), (3, .nil), (2, .ptr 0 0 0), (0, .val (.string s))], [(2, ⟨30, 3, true, [[.val (.int .i16 0), .val (.int .i16 0), .val (.int .i16 0)]]⟩), (1, ⟨9, 1, false, strs (splP 32 s)⟩), (0, ⟨30, 3, true, [[.val (.int .i16 0), .val (.int .i16 0), .val (.int .i16 0)]]⟩)], 3⟩) (by exact weak_sl (sub_cons rfl (sub_cons rfl (sub_cons rfl (sub_cons rfl (sub_cons rfl (sub_cons rfl (sub_cons rfl (sub_cons rfl (sub_cons rfl (sub_nil))))))))))) hS12
        refine ⟨⟨_, rfl, rfl, ?_⟩, trivial⟩
        refine g1 ?_
        exact anyS_weak (st' := ⟨[(18, .val (.int .i16 (shW ((splP 32 s).getD 0 baZ)))), (20, .ptr 1 1 0), (25, .val (.string ((splP 32 s).getD 2 baZ))), (6, .ptr 2 0 0), (5, .own 1), (4, .val (.int .i64 0)), (3, .nil), (2, .ptr 0 0 0), (0, .val (.string s))], [(2, ⟨30, 3, true, [[.val (.int .i16 0), .val (.int .i16 0), .val (.int .i16 0)]]⟩), (1, ⟨9, 1, false, strs (splP 32 s)⟩), (0, ⟨30, 3, true, [[.val (.int .i16 0), .val (.int .i16 0), .val (.int .i16 0)]]⟩)], 3⟩) (by exact weak_sl (sub_cons rfl (sub_cons rfl (sub_cons rfl (sub_cons rfl (sub_cons rfl (sub_cons rfl (sub_cons rfl (sub_cons rfl (sub_cons rfl (sub_nil))))))))))) hS13
      refine anyS_cut (fuel' := 6) (listed' := #[true, true, true, true, true, false, false, false, true, true, true, false, false, true, false]) (st' := ⟨[(18, .val (.int .i16 (shW ((splP 32 s).getD 0 baZ)))), (19, .own 1), (25, .val (.string ((splP 32 s).getD 2 baZ))), (6, .ptr 2 0 0), (5, .own 1), (4, .val (.int .i64 0)), (3, .nil), (2, .ptr 0 0 0), (0, .val (.string s))], [(2, ⟨30, 3, true, [[.val (.int .i16 0), .val (.int .i16 0), .val (.int .i16 0)]]⟩), (1, ⟨9, 1, false, strs (splP 32 s)⟩), (0, ⟨30, 3, true, [[.val (.int .i16 0), .val (.int .i16 0), .val (.int .i16 0)]]⟩)], 3⟩) ?_ (fun hS20 => ?_)
      · skip
        refine anyS_cons T0_ok hP hm hN (by rfl) [5] (by rfl) rfl ?_
        refine ⟨⟨_, rfl, rfl, ?_⟩, trivial⟩
        refine g1 ?_
        exact anyS_weak (st' := ⟨[(18, .val (.int .i16 (shW ((splP 32 s).getD 0 baZ)))), (20, .ptr 1 1 0), (25, .val (.string ((splP 32 s).getD 2 baZ))), (6, .ptr 2 0 0), (5, .own 1), (4, .val (.int .i64 0)), (3, .nil), (2, .ptr 0 0 0), (0, .val (.string s))], [(2, ⟨30, 3, true, [[.val (.int .i16 0), .val (.int .i16 0), .val (.int .i16 0)]]⟩), (1, ⟨9, 1, false, strs (splP 32 s)⟩), (0, ⟨30, 3, true, [[.val (.int .i16 0), .val (.int .i16 0), .val (.int .i16 0)]]⟩)], 3⟩) (by exact weak_sl (sub_cons rfl (sub_cons rfl (sub_cons rfl (sub_cons rfl (sub_cons rfl (sub_cons rfl (sub_cons rfl (sub_cons rfl (sub_cons rfl (sub_nil))))))))))) hS13
      refine anyS_cut (fuel' := 6) (listed' := #[true, true, true, false, true, true, true, false, true, true, true, false, false, false, false]) (st' := ⟨[(17, .val (.string ((splP 32 s).getD 0 baZ))), (21, .val (.string ((splP 32 s).getD 1 baZ))), (25, .val (.string ((splP 32 s).getD 2 baZ))), (5, .own 1), (4, .val (.int .i64 0)), (3, .nil), (2, .ptr 0 0 0), (0, .val (.string s))], [(1, ⟨9, 1, false, strs (splP 32 s)⟩), (0, ⟨30, 3, true, [[.val (.int .i16 0), .val (.int .i16 0), .val (.int .i16 0)]]⟩)], 2⟩) ?_ (fun hS21 => ?_)
      · skip
        refine anyS_cons T0_ok hP hm hN (by rfl) [3, 13] (by rfl) rfl ?_
        refine ⟨⟨_, rfl, rfl, ?_⟩, ?_⟩
        · skip
          refine gc1 ?_ (call1 ok_I_short ((splP 32 s).getD 0 baZ) [] (hpre := by (try dsimp only); omega))
          exact anyS_weak (st' := ⟨[(18, .val (.int .i16 (shW ((splP 32 s).getD 0 baZ)))), (21, .val (.string ((splP 32 s).getD 1 baZ))), (25, .val (.string ((splP 32 s).getD 2 baZ))), (5, .own 1), (4, .val (.int .i64 0)), (3, .nil), (2, .ptr 0 0 0), (0, .val (.string s))], [(1, ⟨9, 1, false, strs (splP 32 s)⟩), (0, ⟨30, 3, true, [[.val (.int .i16 0), .val (.int .i16 0), .val (.int .i16 0)]]⟩)], 2⟩) (by exact weak_sl (sub_cons rfl (sub_cons rfl (sub_cons rfl (sub_cons rfl (sub_cons rfl (sub_cons rfl (sub_cons rfl (sub_cons rfl (sub_nil)))))))))) hS11
        refine ⟨⟨_, rfl, rfl, ?_⟩, trivial⟩
        refine g1 ?_
        exact anyS_weak (st' := ⟨[(17, .val (.string ((splP 32 s).getD 0 baZ))), (21, .val (.string ((splP 32 s).getD 1 baZ))), (25, .val (.string ((splP 32 s).getD 2 baZ))), (6, .ptr 2 0 0), (5, .own 1), (4, .val (.int .i64 0)), (3, .nil), (2, .ptr 0 0 0), (0, .val (.string s))], [(2, ⟨30, 3, true, [[.val (.int .i16 0), .val (.int .i16 0), .val (.int .i16 0)]]⟩), (1, ⟨9, 1, false, strs (splP 32 s)⟩), (0, ⟨30, 3, true, [[.val (.int .i16 0), .val (.int .i16 0), .val (.int .i16 0)]]⟩)], 3⟩) (by exact weak_sl (sub_cons rfl (sub_cons rfl (sub_cons rfl (sub_cons rfl (sub_cons rfl (sub_cons rfl (sub_cons rfl (sub_cons rfl (sub_cons rfl (sub_nil))))))))))) hS14
      refine anyS_cut (fuel' := 6) (listed' := #[true, true, true, false, true, true, true, false, true, true, false, false, false, true, false]) (st' := ⟨[(17, .val (.string ((splP 32 s).getD 0 baZ))), (21, .val (.string ((splP 32 s).getD 1 baZ))), (24, .ptr 1 2 0), (6, .ptr 2 0 0), (5, .own 1), (4, .val (.int .i64 0)), (3, .nil), (2, .ptr 0 0 0), (0, .val (.string s))], [(2, ⟨30, 3, true, [[.val (.int .i16 0), .val (.int .i16 0), .val (.int .i16 0)]]⟩), (1, ⟨9, 1, false, strs (splP 32 s)⟩), (0, ⟨30, 3, true, [[.val (.int .i16 0), .val (.int .i16 0), .val (.int .i16 0)]]⟩)], 3⟩) ?_ (fun hS22 => ?_)
      · skip
        refine anyS_cons T0_ok hP hm hN (by rfl) [3, 10] (by rfl) rfl ?_
        refine ⟨⟨_, rfl, rfl, ?_⟩, ?_⟩
        · skip
          refine gc1 ?_ (call1 ok_I_short ((splP 32 s).getD 0 baZ) [] (hpre := by (try dsimp only); omega))
          exact anyS_weak (st' := ⟨[(18, .val (.int .i16 (shW ((splP 32 s).getD 0 baZ)))), (21, .val (.string ((splP 32 s).getD 1 baZ))), (24, .ptr 1 2 0), (6, .ptr 2 0 0), (5, .own 1), (4, .val (.int .i64 0)), (3, .nil), (2, .ptr 0 0 0), (0, .val (.string s))], [(2, ⟨30, 3, true, [[.val (.int .i16 0), .val (.int .i16 0), .val (.int .i16 0)]]⟩), (1, ⟨9, 1, false, strs (splP 32 s)⟩), (0, ⟨30, 3, true, [[.val (.int .i16 0), .val (.int .i16 0), .val (.int .i16 0)]]⟩)], 3⟩) (by exact weak_sl (sub_cons rfl (sub_cons rfl (sub_cons rfl (sub_cons rfl (sub_cons rfl (sub_cons rfl (sub_cons rfl (sub_cons rfl (sub_cons rfl (sub_nil))))))))))) hS12
        refine ⟨⟨_, rfl, rfl, ?_⟩, trivial⟩
        refine g1 ?_
        exact anyS_weak (st' := ⟨[(17, .val (.string ((splP 32 s).getD 0 baZ))), (21, .val (.string ((splP 32 s).getD 1 baZ))), (25, .val (.string ((splP 32 s).getD 2 baZ))), (6, .ptr 2 0 0), (5, .own 1), (4, .val (.int .i64 0)), (3, .nil), (2, .ptr 0 0 0), (0, .val (.string s))], [(2, ⟨30, 3, true, [[.val (.int .i16 0), .val (.int .i16 0), .val (.int .i16 0)]]⟩), (1, ⟨9, 1, false, strs (splP 32 s)⟩), (0, ⟨30, 3, true, [[.val (.int .i16 0), .val (.int .i16 0), .val (.int .i16 0)]]⟩)], 3⟩) (by exact weak_sl (sub_cons rfl (sub_cons rfl (sub_cons rfl (sub_cons rfl (sub_cons rfl (sub_cons rfl (sub_cons rfl (sub_cons rfl (sub_cons rfl (sub_nil))))))))))) hS14
      refine anyS_cut (fuel' := 6) (listed' := #[true, true, true, false, true, true, false, false, true, true, true, false, false, true, false]) (st' := ⟨[(17, .val (.string ((splP 32 s).getD 0 baZ))), (20, .ptr 1 1 0), (25, .val (.string ((splP 32 s).getD 2 baZ))), (6, .ptr 2 0 0), (5, .own 1), (4, .val (.int .i64 0)), (3, .nil), (2, .ptr 0 0 0), (0, .val (.string s))], [(2, ⟨30, 3, true, [[.val (.int .i16 0), .val (.int .i16 0), .val (.int .i16 0)]]⟩), (1, ⟨9, 1, false, strs (splP 32 s)⟩), (0, ⟨30, 3, true, [[.val (.int .i16 0), .val (.int .i16 0), .val (.int .i16 0)]]⟩)], 3⟩) ?_ (fun hS23 => ?_)
      · skip
        refine anyS_cons T0_ok hP hm hN (by rfl) [3, 6] (by rfl) rfl ?_
        refine ⟨⟨_, rfl, rfl, ?_⟩, ?_⟩
        · skip
          refine gc1 ?_ (call1 ok_I_short ((splP 32 s).getD 0 baZ) [] (hpre := by (try dsimp only); omega))
          exact anyS_weak (st' := ⟨[(18, .val (.int .i16 (shW ((splP 32 s).getD 0 baZ)))), (20, .ptr 1 1 0), (25, .val (.string ((splP 32 s).getD 2 baZ))), (6, .ptr 2 0 0), (5, .own 1), (4, .val (.int .i64 0)), (3, .nil), (2, .ptr 0 0 0), (0, .val (.string s))], [(2, ⟨30, 3, true, [[.val (.int .i16 0), .val (.int .i16 0), .val (.int .i16 0)]]⟩), (1, ⟨9, 1, false, strs (splP 32 s)⟩), (0, ⟨30, 3, true, [[.val (.int .i16 0), .val (.int .i16 0), .val (.int .i16 0)]]⟩)], 3⟩) (by exact weak_sl (sub_cons rfl (sub_cons rfl (sub_cons rfl (sub_cons rfl (sub_cons rfl (sub_cons rfl (sub_cons rfl (sub_cons rfl (sub_cons rfl (sub_nil))))))))))) hS13
        refine ⟨⟨_, rfl, rfl, ?_⟩, trivial⟩
        refine g1 ?_
        exact anyS_weak (st' := ⟨[(17, .val (.string ((splP 32 s).getD 0 baZ))), (21, .val (.string ((splP 32 s).getD 1 baZ))), (25, .val (.string ((splP 32 s).getD 2 baZ))), (6, .ptr 2 0 0), (5, .own 1), (4, .val (.int .i64 0)), (3, .nil), (2, .ptr 0 0 0), (0, .val (.string s))], [(2, ⟨30, 3, true, [[.val (.int .i16 0), .val (.int .i16 0), .val (.int .i16 0)]]⟩), (1, ⟨9, 1, false, strs (splP 32 s)⟩), (0, ⟨30, 3, true, [[.val (.int .i16 0), .val (.int .i16 0), .val (.int .i16 0)]]⟩)], 3⟩) (by exact weak_sl (sub_cons rfl (sub_cons rfl (sub_cons rfl (sub_cons rfl (sub_cons rfl (sub_cons rfl (sub_cons rfl (sub_cons rfl (sub_cons rfl (sub_nil))))))))))) hS14
      refine anyS_cut (fuel' := 6) (listed' := #[true, true, false, false, true, true, true, false, true, true, true, false, false, true, false]) (st' := ⟨[(16, .ptr 1 0 0), (21, .val (.string ((splP 32 s).getD 1 baZ))), (25, .val (.string ((splP 32 s).getD 2 baZ))), (6, .ptr 2 0 0), (5, .own 1), (4, .val (.int .i64 0)), (3, .nil), (2, .ptr 0 0 0), (0, .val (.string s))], [(2, ⟨30, 3, true, [[.val (.int .i16 0), .val (.int .i16 0), .val (.int .i16 0)]]⟩), (1, ⟨9, 1, false, strs (splP 32 s)⟩), (0, ⟨30, 3, true, [[.val (.int .i16 0), .val (.int .i16 0), .val (.int .i16 0)]]⟩)], 3⟩) ?_ (fun hS24 => ?_)
      · skip
        refine anyS_cons T0_ok hP hm hN (by rfl) [2] (by rfl) rfl ?_
        refine ⟨⟨_, rfl, rfl, ?_⟩, trivial⟩
        refine g1 ?_
        exact anyS_weak (st' := ⟨[(17, .val (.string ((splP 32 s).getD 0 baZ))), (21, .val (.string ((splP 32 s).getD 1 baZ))), (25, .val (.string ((splP 32 s).getD 2 baZ))), (6, .ptr 2 0 0), (5, .own 1), (4, .val (.int .i64 0)), (3, .nil), (2, .ptr 0 0 0), (0, .val (.string s))], [(2, ⟨30, 3, true, [[.val (.int .i16 0), .val (.int .i16 0), .val (.int .i16 0)]]⟩), (1, ⟨9, 1, false, strs (splP 32 s)⟩), (0, ⟨30, 3, true, [[.val (.int .i16 0), .val (.int .i16 0), .val (.int .i16 0)]]⟩)], 3⟩) (by exact weak_sl (sub_cons rfl (sub_cons rfl (sub_cons rfl (sub_cons rfl (sub_cons rfl (sub_cons rfl (sub_cons rfl (sub_cons rfl (sub_cons rfl (sub_nil))))))))))) hS14
      refine anyS_cut (fuel' := 7) (listed' := #[true, true, true, true, true, true, true, false, true, false, false, false, false, false, false]) (st' := ⟨[(18, .val (.int .i16 (shW ((splP 32 s).getD 0 baZ)))), (21, .val (.string ((splP 32 s).getD 1 baZ))), (23, .own 1), (5, .own 1), (4, .val (.int .i64 0)), (3, .nil), (2, .ptr 0 0 0), (0, .val (.string s))], [(1, ⟨9, 1, false, strs (splP 32 s)⟩), (0, ⟨30, 3, true, [[.val (.int .i16 0), .val (.int .i16 0), .val (.int .i16 0)]]⟩)], 2⟩) ?_ (fun hS25 => ?_)
      · skip
        refine anyS_cons T0_ok hP hm hN (by rfl) [7, 9, 13] (by rfl) rfl ?_
        refine ⟨⟨_, rfl, rfl, ?_⟩, ?_⟩
        · skip
          refine gc1 ?_ (call1 ok_I_short ((splP 32 s).getD 1 baZ) [] (hpre := by (try dsimp only); omega))
          exact anyS_weak (st' := ⟨[(18, .val (.int .i16 (shW ((splP 32 s).getD 0 baZ)))), (22, .val (.int .i16 (shW ((splP 32 s).getD 1 baZ)))), (23, .own 1), (5, .own 1), (4, .val (.int .i64 0)), (3, .nil), (2, .ptr 0 0 0), (0, .val (.string s))], [(1, ⟨9, 1, false, strs (splP 32 s)⟩), (0, ⟨30, 3, true, [[.val (.int .i16 0), .val (.int .i16 0), .val (.int .i16 0)]]⟩)], 2⟩) (by exact weak_sl (sub_cons rfl (sub_cons rfl (sub_cons rfl (sub_cons rfl (sub_cons rfl (sub_cons rfl (sub_cons rfl (sub_cons rfl (sub_nil)))))))))) hS15
        refine ⟨⟨_, rfl, rfl, ?_⟩, ?_⟩
        · skip
          refine g1 ?_
          exact anyS_weak (st' := ⟨[(18, .val (.int .i16 (shW ((splP 32 s).getD 0 baZ)))), (21, .val (.string ((splP 32 s).getD 1 baZ))), (24, .ptr 1 2 0), (5, .own 1), (4, .val (.int .i64 0)), (3, .nil), (2, .ptr 0 0 0), (0, .val (.string s))], [(1, ⟨9, 1, false, strs (splP 32 s)⟩), (0, ⟨30, 3, true, [[.val (.int .i16 0), .val (.int .i16 0), .val (.int .i16 0)]]⟩)], 2⟩) (by exact weak_sl (sub_cons rfl (sub_cons rfl (sub_cons rfl (sub_cons rfl (sub_cons rfl (sub_cons rfl (sub_cons rfl (sub_cons rfl (sub_nil)))))))))) hS16
        refine ⟨⟨_, rfl, rfl, ?_⟩, trivial⟩
        refine g1 ?_
        exact anyS_weak (st' := ⟨[(18, .val (.int .i16 (shW ((splP 32 s).getD 0 baZ)))), (21, .val (.string ((splP 32 s).getD 1 baZ))), (23, .own 1), (6, .ptr 2 0 0), (5, .own 1), (4, .val (.int .i64 0)), (3, .nil), (2, .ptr 0 0 0), (0, .val (.string s))], [(2, ⟨30, 3, true, [[.val (.int .i16 0), .val (.int .i16 0), .val (.int .i16 0)]]⟩), (1, ⟨9, 1, false, strs (splP 32 s)⟩), (0, ⟨30, 3, true, [[.val (.int .i16 0), .val (.int .i16 0), .val (.int .i16 0)]]⟩)], 3⟩) (by exact weak_sl (sub_cons rfl (sub_cons rfl (sub_cons rfl (sub_cons rfl (sub_cons rfl (sub_cons rfl (sub_cons rfl (sub_cons rfl (sub_cons rfl (sub_nil))))))))))) hS17
      refine anyS_cut (fuel' := 7) (listed' := #[true, true, true, true, true, true, false, false, true, true, false, false, false, false, false]) (st' := ⟨[(18, .val (.int .i16 (shW ((splP 32 s).getD 0 baZ)))), (20, .ptr 1 1 0), (24, .ptr 1 2 0), (5, .own 1), (4, .val (.int .i64 0)), (3, .nil), (2, .ptr 0 0 0), (0, .val (.string s))], [(1, ⟨9, 1, false, strs (splP 32 s)⟩), (0, ⟨30, 3, true, [[.val (.int .i16 0), .val (.int .i16 0), .val (.int .i16 0)]]⟩)], 2⟩) ?_ (fun hS26 => ?_)
      · skip
        refine anyS_cons T0_ok hP hm hN (by rfl) [6, 10, 13] (by rfl) rfl ?_
        refine ⟨⟨_, rfl, rfl, ?_⟩, ?_⟩
        · skip
          refine g1 ?_
          exact anyS_weak (st' := ⟨[(18, .val (.int .i16 (shW ((splP 32 s).getD 0 baZ)))), (21, .val (.string ((splP 32 s).getD 1 baZ))), (24, .ptr 1 2 0), (5, .own 1), (4, .val (.int .i64 0)), (3, .nil), (2, .ptr 0 0 0), (0, .val (.string s))], [(1, ⟨9, 1, false, strs (splP 32 s)⟩), (0, ⟨30, 3, true, [[.val (.int .i16 0), .val (.int .i16 0), .val (.int .i16 0)]]⟩)], 2⟩) (by exact weak_sl (sub_cons rfl (sub_cons rfl (sub_cons rfl (sub_cons rfl (sub_cons rfl (sub_cons rfl (sub_cons rfl (sub_cons rfl (sub_nil)))))))))) hS16
        refine ⟨⟨_, rfl, rfl, ?_⟩, ?_⟩
        · skip
          refine g1 ?_
          exact anyS_weak (st' := ⟨[(18, .val (.int .i16 (shW ((splP 32 s).getD 0 baZ)))), (20, .ptr 1 1 0), (25, .val (.string ((splP 32 s).getD 2 baZ))), (5, .own 1), (4, .val (.int .i64 0)), (3, .nil), (2, .ptr 0 0 0), (0, .val (.string s))], [(1, ⟨9, 1, false, strs (splP 32 s)⟩), (0, ⟨30, 3, true, [[.val (.int .i16 0), .val (.int .i16 0), .val (.int .i16 0)]]⟩)], 2⟩) (by exact weak_sl (sub_cons rfl (sub_cons rfl (sub_cons rfl (sub_cons rfl (sub_cons rfl (sub_cons rfl (sub_cons rfl (sub_cons rfl (sub_nil)))))))))) hS18
        refine ⟨⟨_, rfl, rfl, ?_⟩, trivial⟩
        refine g1 ?_
        exact anyS_weak (st' := ⟨[(18, .val (.int .i16 (shW ((splP 32 s).getD 0 baZ)))), (20, .ptr 1 1 0), (24, .ptr 1 2 0), (6, .ptr 2 0 0), (5, .own 1), (4, .val (.int .i64 0)), (3, .nil), (2, .ptr 0 0 0), (0, .val (.string s))], [(2, ⟨30, 3, true, [[.val (.int .i16 0), .val (.int .i16 0), .val (.int .i16 0)]]⟩), (1, ⟨9, 1, false, strs (splP 32 s)⟩), (0, ⟨30, 3, true, [[.val (.int .i16 0), .val (.int .i16 0), .val (.int .i16 0)]]⟩)], 3⟩) (by exact weak_sl (sub_cons rfl (sub_cons rfl (sub_cons rfl (sub_cons rfl (sub_cons rfl (sub_cons rfl (sub_cons rfl (sub_cons rfl (sub_cons rfl (sub_nil))))))))))) hS19
      refine anyS_cut (fuel' := 7) (listed' := #[true, true, true, true, true, true, false, false, true, false, false, false, false, true, false]) (st' := ⟨[(18, .val (.int .i16 (shW ((splP 32 s).getD 0 baZ)))), (20, .ptr 1 1 0), (23, .own 1), (6, .ptr 2 0 0), (5, .own 1), (4, .val (.int .i64 0)), (3, .nil), (2, .ptr 0 0 0), (0, .val (.string s))], [(2, ⟨30, 3, true, [[.val (.int .i16 0), .val (.int .i16 0), .val (.int .i16 0)]]⟩), (1, ⟨9, 1, false, strs (splP 32 s)⟩), (0, ⟨30, 3, true, [[.val (.int .i16 0), .val (.int .i16 0), .val (.int .i16 0)]]⟩)], 3⟩) ?_ (fun hS27 => ?_)
      · skip
        refine anyS_cons T0_ok hP hm hN (by rfl) [6, 9] (by rfl) rfl ?_
        refine ⟨⟨_, rfl, rfl, ?_⟩, ?_⟩
        · skip
          refine g1 ?_
          exact anyS_weak (st' := ⟨[(18, .val (.int .i16 (shW ((splP 32 s).getD 0 baZ)))), (21, .val (.string ((splP 32 s).getD 1 baZ))), (23, .own 1), (6, .ptr 2 0 0), (5, .own 1), (4, .val (.int .i64 0)), (3, .nil), (2, .ptr 0 0 0), (0, .val (.string s))], [(2, ⟨30, 3, true, [[.val (.int .i16 0), .val (.int .i16 0), .val (.int .i16 0)]]⟩), (1, ⟨9, 1, false, strs (splP 32 s)⟩), (0, ⟨30, 3, true, [[.val (.int .i16 0), .val (.int .i16 0), .val (.int .i16 0)]]⟩)], 3⟩) (by exact weak_sl (sub_cons rfl (sub_cons rfl (sub_cons rfl (sub_cons rfl (sub_cons rfl (sub_cons rfl (sub_cons rfl (sub_cons rfl (sub_cons rfl (sub_nil))))))))))) hS17
        refine ⟨⟨_, rfl, rfl, ?_⟩, trivial⟩
        refine g1 ?_
        exact anyS_weak (st' := ⟨[(18, .val (.int .i16 (shW ((splP 32 s).getD 0 baZ)))), (20, .ptr 1 1 0), (24, .ptr 1 2 0), (6, .ptr 2 0 0), (5, .own 1), (4, .val (.int .i64 0)), (3, .nil), (2, .ptr 0 0 0), (0, .val (.string s))], [(2, ⟨30, 3, true, [[.val (.int .i16 0), .val (.int .i16 0), .val (.int .i16 0)]]⟩), (1, ⟨9, 1, false, strs (splP 32 s)⟩), (0, ⟨30, 3, true, [[.val (.int .i16 0), .val (.int .i16 0), .val (.int .i16 0)]]⟩)], 3⟩) (by exact weak_sl (sub_cons rfl (sub_cons rfl (sub_cons rfl (sub_cons rfl (sub_cons rfl (sub_cons rfl (sub_cons rfl (sub_cons rfl (sub_cons rfl (sub_nil))))))))))) hS19
      refine anyS_cut (fuel' := 7) (listed' := #[true, true, true, true, true, false, false, false, true, true, true, false, false, false, false]) (st' := ⟨[(18, .val (.int .i16 (shW ((splP 32 s).getD 0 baZ)))), (19, .own 1), (25, .val (.string ((splP 32 s).getD 2 baZ))), (5, .own 1), (4, .val (.int .i64 0)), (3, .nil), (2, .ptr 0 0 0), (0, .val (.string s))], [(1, ⟨9, 1, false, strs (splP 32 s)⟩), (0, ⟨30, 3, true, [[.val (.int .i16 0), .val (.int .i16 0), .val (.int .i16 0)]]⟩)], 2⟩) ?_ (fun hS28 => ?_)
      · skip
        refine anyS_cons T0_ok hP hm hN (by rfl) [5, 13] (by rfl) rfl ?_
        refine ⟨⟨_, rfl, rfl, ?_⟩, ?_⟩
        · skip
          refine g1 ?_
          exact anyS_weak (st' := ⟨[(18, .val (.int .i16 (shW ((splP 32 s).getD 0 baZ)))), (20, .ptr 1 1 0), (25, .val (.string ((splP 32 s).getD 2 baZ))), (5, .own 1), (4, .val (.int .i64 0)), (3, .nil), (2, .ptr 0 0 0), (0, .val (.string s))], [(1, ⟨9, 1, false, strs (splP 32 s)⟩), (0, ⟨30, 3, true, [[.val (.int .i16 0), .val (.int .i16 0), .val (.int .i16 0)]]⟩)], 2⟩) (by exact weak_sl (sub_cons rfl (sub_cons rfl (sub_cons rfl (sub_cons rfl (sub_cons rfl (sub_cons rfl (sub_cons rfl (sub_cons rfl (sub_nil)))))))))) hS18
        refine ⟨⟨_, rfl, rfl, ?_⟩, trivial⟩
        refine g1 ?_
        exact anyS_weak (st' := ⟨[(18, .val (.int .i16 (shW ((splP 32 s).getD 0 baZ)))), (19, .own 1), (25, .val (.string ((splP 32 s).getD 2 baZ))), (6, .ptr 2 0 0), (5, .own 1), (4, .val (.int .i64 0)), (3, .nil), (2, .ptr 0 0 0), (0, .val (.string s))], [(2, ⟨30, 3, true, [[.val (.int .i16 0), .val (.int .i16 0), .val (.int .i16 0)]]⟩), (1, ⟨9, 1, false, strs (splP 32 s)⟩), (0, ⟨30, 3, true, [[.val (.int .i16 0), .val (.int .i16 0), .val (.int .i16 0)]]⟩)], 3⟩) (by exact weak_sl (sub_cons rfl (sub_cons rfl (sub_cons rfl (sub_cons rfl (sub_cons rfl (sub_cons rfl (sub_cons rfl (sub_cons rfl (sub_cons rfl (sub_nil))))))))))) hS20
      refine anyS_cut (fuel' := 7) (listed' := #[true, true, true, true, true, false, false, false, true, true, false, false, false, true, false]) (st' := ⟨[(18, .val (.int .i16 (shW ((splP 32 s).getD 0 baZ)))), (19, .own 1), (24, .ptr 1 2 0), (6, .ptr 2 0 0), (5, .own 1), (4, .val (.int .i64 0)), (3, .nil), (2, .ptr 0 0 0), (0, .val (.string s))], [(2, ⟨30, 3, true, [[.val (.int .i16 0), .val (.int .i16 0), .val (.int .i16 0)]]⟩), (1, ⟨9, 1, false, strs (splP 32 s)⟩), (0, ⟨30, 3, true, [[.val (.int .i16 0), .val (.int .i16 0), .val (.int .i16 0)]]⟩)], 3⟩) ?_ (fun hS29 => ?_)
      · skip
        refine anyS_cons T0_ok hP hm hN (by rfl) [5, 10] (by rfl) rfl ?_
        refine ⟨⟨_, rfl, rfl, ?_⟩, ?_⟩
        · skip
          refine g1 ?_
          exact anyS_weak (st' := ⟨[(18, .val (.int .i16 (shW ((splP 32 s).getD 0 baZ)))), (20, .ptr 1 1 0), (24, .ptr 1 2 0), (6, .ptr 2 0 0), (5, .own 1), (4, .val (.int .i64 0)), (3, .nil), (2, .ptr 0 0 0), (0, .val (.string s))], [(2, ⟨30, 3, true, [[.val (.int .i16 0), .val (.int .i16 0), .val (.int .i16 0)]]⟩), (1, ⟨9, 1, false, strs (splP 32 s)⟩), (0, ⟨30, 3, true, [[.val (.int .i16 0), .val (.int .i16 0), .val (.int .i16 0)]]⟩)], 3⟩) (by exact weak_sl (sub_cons rfl (sub_cons rfl (sub_cons rfl (sub_cons rfl (sub_cons rfl (sub_cons rfl (sub_cons rfl (sub_cons rfl (sub_cons rfl (sub_nil))))))))))) hS19
        refine ⟨⟨_, rfl, rfl, ?_⟩, trivial⟩
        refine g1 ?_
        exact anyS_weak (st' := ⟨[(18, .val (.int .i16 (shW ((splP 32 s).getD 0 baZ)))), (19, .own 1), (25, .val (.string ((splP 32 s).getD 2 baZ))), (6, .ptr 2 0 0), (5, .own 1), (4, .val (.int .i64 0)), (3, .nil), (2, .ptr 0 0 0), (0, .val (.string s))], [(2, ⟨30, 3, true, [[.val (.int .i16 0), .val (.int .i16 0), .val (.int .i16 0)]]⟩), (1, ⟨9, 1, false, strs (splP 32 s)⟩), (0, ⟨30, 3, true, [[.val (.int .i16 0), .val (.int .i16 0), .val (.int .i16 0)]]⟩)], 3⟩) (by exact weak_sl (sub_cons rfl (sub_cons rfl (sub_cons rfl (sub_cons rfl (sub_cons rfl (sub_cons rfl (sub_cons rfl (sub_cons rfl (sub_cons rfl (sub_nil))))))))))) hS20
      refine anyS_cut (fuel' := 7) (listed' := #[true, true, true, false, true, true, true, false, true, true, false, false, false, false, false]) (st' := ⟨[(17, .val (.string ((splP 32 s).getD 0 baZ))), (21, .val (.string ((splP 32 s).getD 1 baZ))), (24, .ptr 1 2 0), (5, .own 1), (4, .val (.int .i64 0)), (3, .nil), (2, .ptr 0 0 0), (0, .val (.string s))], [(1, ⟨9, 1, false, strs (splP 32 s)⟩), (0, ⟨30, 3, true, [[.val (.int .i16 0), .val (.int .i16 0), .val (.int .i16 0)]]⟩)], 2⟩) ?_ (fun hS30 => ?_)
      · skip
        refine anyS_cons T0_ok hP hm hN (by rfl) [3, 10, 13] (by rfl) rfl ?_
        refine ⟨⟨_, rfl, rfl, ?_⟩, ?_⟩
        · skip
          refine gc1 ?_ (call1 ok_I_short ((splP 32 s).getD 0 baZ) [] (hpre := by (try dsimp only); omega))
          exact anyS_weak (st' := ⟨[(18, .val (.int .i16 (shW ((splP 32 s).getD 0 baZ)))), (21, .val (.string ((splP 32 s).getD 1 baZ))), (24, .ptr 1 2 0), (5, .own 1), (4, .val (.int .i64 0)), (3, .nil), (2, .ptr 0 0 0), (0, .val (.string s))], [(1, ⟨9, 1, false, strs (splP 32 s)⟩), (0, ⟨30, 3, true, [[.val (.int .i16 0), .val (.int .i16 0), .val (.int .i16 0)]]⟩)], 2⟩) (by exact weak_sl (sub_cons rfl (sub_cons rfl (sub_cons rfl (sub_cons rfl (sub_cons rfl (sub_cons rfl (sub_cons rfl (sub_cons rfl (sub_nil)))))))))) hS16
        refine ⟨⟨_, rfl, rfl, ?_⟩, ?_⟩
        · skip
          refine g1 ?_
          exact anyS_weak (st' := ⟨[(17, .val (.string ((splP 32 s).getD 0 baZ))), (21, .val (.string ((splP 32 s).getD 1 baZ))), (25, .val (.string ((splP 32 s).getD 2 baZ))), (5, .own 1), (4, .val (.int .i64 0)), (3, .nil), (2, .ptr 0 0 0), (0, .val (.string s))], [(1, ⟨9, 1, false, strs (splP 32 s)⟩), (0, ⟨30, 3, true, [[.val (.int .i16 0), .val (.int .i16 0), .val (.int .i16 0)]]⟩)], 2⟩) (by exact weak_sl (sub_cons rfl (sub_cons rfl (sub_cons rfl (sub_cons rfl (sub_cons rfl (sub_cons rfl (sub_cons rfl (sub_cons rfl (sub_nil)))))))))) hS21
        refine ⟨⟨_, rfl, rfl, ?_⟩, trivial⟩
        refine g1 ?_
        exact anyS_weak (st' := ⟨[(17, .val (.string ((splP 32 s).getD 0 baZ))), (21, .val (.string ((splP 32 s).getD 1 baZ))), (24, .ptr 1 2 0), (6, .ptr 2 0 0), (5, .own 1), (4, .val (.int .i64 0)), (3, .nil), (2, .ptr 0 0 0), (0, .val (.string s))], [(2, ⟨30, 3, true, [[.val (.int .i16 0), .val (.int .i16 0), .val (.int .i16 0)]]⟩), (1, ⟨9, 1, false, strs (splP 32 s)⟩), (0, ⟨30, 3, true, [[.val (.int .i16 0), .val (.int .i16 0), .val (.int .i16 0)]]⟩)], 3⟩) (by exact weak_sl (sub_cons rfl (sub_cons rfl (sub_cons rfl (sub_cons rfl (sub_cons rfl (sub_cons rfl (sub_cons rfl (sub_cons rfl (sub_cons rfl (sub_nil))))))))))) hS22
      refine anyS_cut (fuel' := 7) (listed' := #[true, true, true, false, true, true, true, false, true, false, false, false, false, true, false]) (st' := ⟨[(17, .val (.string ((splP 32 s).getD 0 baZ))), (21, .val (.string ((splP 32 s).getD 1 baZ))), (23, .own 1), (6, .ptr 2 0 0), (5, .own 1), (4, .val (.int .i64 0)), (3, .nil), (2, .ptr 0 0 0), (0, .val (.string s))], [(2, ⟨30, 3, true, [[.val (.int .i16 0), .val (.int .i16 0), .val (.int .i16 0)]]⟩), (1, ⟨9, 1, false, strs (splP 32 s)⟩), (0, ⟨30, 3, true, [[.val (.int .i16 0), .val (.int .i16 0), .val (.int .i16 0)]]⟩)], 3⟩) ?_ (fun hS31 => ?_)
      · skip
        refine anyS_cons T0_ok hP hm hN (by rfl) [3, 9] (by rfl) rfl ?_
        refine ⟨⟨_, rfl, rfl, ?_⟩, ?_⟩
        · skip
          refine gc1 ?_ (call1 ok_I_short ((splP 32 s).getD 0 baZ) [] (hpre := by (try dsimp only); omega))
          exact anyS_weak (st' := ⟨[(18, .val (.int .i16 (shW ((splP 32 s).getD 0 baZ)))), (21, .val (.string ((splP 32 s).getD 1 baZ))), (23, .own 1), (6, .ptr 2 0 0), (5, .own 1), (4, .val (.int .i64 0)), (3, .nil), (2, .ptr 0 0 0), (0, .val (.string s))], [(2, ⟨30, 3, true, [[.val (.int .i16 0), .val (.int .i16 0), .val (.int .i16 0)]]⟩), (1, ⟨9, 1, false, strs (splP 32 s)⟩), (0, ⟨30, 3, true, [[.val (.int .i16 0), .val (.int .i16 0), .val (.int .i16 0)]]⟩)], 3⟩) (by exact weak_sl (sub_cons rfl (sub_cons rfl (sub_cons rfl (sub_cons rfl (sub_cons rfl (sub_cons rfl (sub_cons rfl (sub_cons rfl (sub_cons rfl (sub_nil))))))))))) hS17
        refine ⟨⟨_, rfl, rfl, ?_⟩, trivial⟩
        refine g1 ?_
        exact anyS_weak (st' := ⟨[(17, .val (.string ((splP 32 s).getD 0 baZ))), (21, .val (.string ((splP 32 s).getD 1 baZ))), (24, .ptr 1 2 0), (6, .ptr 2 0 0), (5, .own 1), (4, .val (.int .i64 0)), (3, .nil), (2, .ptr 0 0 0), (0, .val (.string s))], [(2, ⟨30, 3, true, [[.val (.int .i16 0), .val (.int .i16 0), .val (.int .i16 0)]]⟩), (1, ⟨9, 1, false, strs (splP 32 s)⟩), (0, ⟨30, 3, true, [[.val (.int .i16 0), .val (.int .i16 0), .val (.int .i16 0)]]⟩)], 3⟩) (by exact weak_sl (sub_cons rfl (sub_cons rfl (sub_cons rfl (sub_cons rfl (sub_cons rfl (sub_cons rfl (sub_cons rfl (sub_cons rfl (sub_cons rfl (sub_nil))))))))))) hS22
      refine anyS_cut (fuel' := 7) (listed' := #[true, true, true, false, true, true, false, false, true, true, true, false, false, false, false]) (st' := ⟨[(17, .val (.string ((splP 32 s).getD 0 baZ))), (20, .ptr 1 1 0), (25, .val (.string ((splP 32 s).getD 2 baZ))), (5, .own 1), (4, .val (.int .i64 0)), (3, .nil), (2, .ptr 0 0 0), (0, .val (.string s))], [(1, ⟨9, 1, false, strs (splP 32 s)⟩), (0, ⟨30, 3, true, [[.val (.int .i16 0), .val (.int .i16 0), .val (.int .i16 0)]]⟩)], 2⟩) ?_ (fun hS32 => ?_)
      · skip
        refine anyS_cons T0_ok hP hm hN (by rfl) [3, 6, 13] (by rfl) rfl ?_
        refine ⟨⟨_, rfl, rfl, ?_⟩, ?_⟩
        · skip
          refine gc1 ?_ (call1 ok_I_short ((splP 32 s).getD 0 baZ) [] (hpre := by (try dsimp only); omega))
          exact anyS_weak (st' := ⟨[(18, .val (.int .i16 (shW ((splP 32 s).getD 0 baZ)))), (20, .ptr 1 1 0), (25, .val (.string ((splP 32 s).getD 2 baZ))), (5, .own 1), (4, .val (.int .i64 0)), (3, .nil), (2, .ptr 0 0 0), (0, .val (.string s))], [(1, ⟨9, 1, false, strs (splP 32 s)⟩), (0, ⟨30, 3, true, [[.val (.int .i16 0), .val (.int .i16 0), .val (.int .i16 0)]]⟩)], 2⟩) (by exact weak_sl (sub_cons rfl (sub_cons rfl (sub_cons rfl (sub_cons rfl (sub_cons rfl (sub_cons rfl (sub_cons rfl (sub_cons rfl (sub_nil)))))))))) hS18
        refine ⟨⟨_, rfl, rfl, ?_⟩, ?_⟩
        · skip
          refine g1 ?_
          exact anyS_weak (st' := ⟨[(17, .val (.string ((splP 32 s).getD 0 baZ))), (21, .val (.string ((splP 32 s).getD 1 baZ))), (25, .val (.string ((splP 32 s).getD 2 baZ))), (5, .own 1), (4, .val (.int .i64 0)), (3, .nil), (2, .ptr 0 0 0), (0, .val (.string s))], [(1, ⟨9, 1, false, strs (splP 32 s)⟩), (0, ⟨30, 3, true, [[.val (.int .i16 0), .val (.int .i16 0), .val (.int .i16 0)]]⟩)], 2⟩) (by exact weak_sl (sub_cons rfl (sub_cons rfl (sub_cons rfl (sub_cons rfl (sub_cons rfl (sub_cons rfl (sub_cons rfl (sub_cons rfl (sub_nil)))))))))) hS21
        refine ⟨⟨_, rfl, rfl, ?_⟩, trivial⟩
        refine g1 ?_
        exact anyS_weak (st' := ⟨[(17, .val (.string ((splP 32 s).getD 0 baZ))), (20, .ptr 1 1 0), (25, .val (.string ((splP 32 s).getD 2 baZ))), (6, .ptr 2 0 0), (5, .own 1), (4, .val (.int .i64 0)), (3, .nil), (2, .ptr 0 0 0), (0, .val (.string s))], [(2, ⟨30, 3, true, [[.val (.int .i16 0), .val (.int .i16 0), .val (.int .i16 0)]]⟩), (1, ⟨9, 1, false, strs (splP 32 s)⟩), (0, ⟨30, 3, true, [[.val (.int .i16 0), .val (.int .i16 0), .val (.int .i16 0)]]⟩)], 3⟩) (by exact weak_sl (sub_cons rfl (sub_cons rfl (sub_cons rfl (sub_cons rfl (sub_cons rfl (sub_cons rfl (sub_cons rfl (sub_cons rfl (sub_cons rfl (sub_nil))))))))))) hS23
      refine anyS_cut (fuel' := 7) (listed' := #[true, true, true, false, true, true, false, false, true, true, false, false, false, true, false]) (st' := ⟨[(17, .val (.string ((splP 32 s).getD 0 baZ))), (20, .ptr 1 1 0), (24, .ptr 1 2 0), (6, .ptr 2 0 0), (5, .own 1), (4, .val (.int .i64 0)), (3, .nil), (2, .ptr 0 0 0), (0, .val (.string s))], [(2, ⟨30, 3, true, [[.val (.int .i16 0), .val (.int .i16 0), .val (.int .i16 0)]]⟩), (1, ⟨9, 1, false, strs (splP 32 s)⟩), (0, ⟨30, 3, true, [[.val (.int .i16 0), .val (.int .i16 0), .val (.int .i16 0)]]⟩)], 3⟩) ?_ (fun hS33 => ?_)
      · skip
        refine anyS_cons T0_ok hP hm hN (by rfl) [3, 6, 10] (by rfl) rfl ?_
        refine ⟨⟨_, rfl, rfl, ?_⟩, ?_⟩
        · skip
          refine gc1 ?_ (call1 ok_I_short ((splP 32 s).getD 0 baZ) [] (hpre := by (try dsimp only); omega))
          exact anyS_weak (st' := ⟨[(18, .val (.int .i16 (shW ((splP 32 s).getD 0 baZ)))), (20, .ptr 1 1 0), (24, .ptr 1 2 0), (6, .ptr 2 0 0), (5, .own 1), (4, .val (.int .i64 0)), (3, .nil), (2, .ptr 0 0 0), (0, .val (.string s))], [(2, ⟨30, 3, true, [[.val (.int .i16 0), .val (.int .i16 0), .val (.int .i16 0)]]⟩), (1, ⟨9, 1, false, strs (splP 32 s)⟩), (0, ⟨30, 3, true, [[.val (.int .i16 0), .val (.int .i16 0), .val (.int .i16 0)]]⟩)], 3⟩) (by exact weak_sl (sub_cons rfl (sub_cons rfl (sub_cons rfl (sub_cons rfl (sub_cons rfl (sub_cons rfl (sub_cons rfl (sub_cons rfl (sub_cons rfl (sub_nil))))))))))) hS19
        refine ⟨⟨_, rfl, rfl, ?_⟩, ?_⟩
        · skip
          refine g1 ?_
          exact anyS_weak (st' := ⟨[(17, .val (.string ((splP 32 s).getD 0 baZ))), (21, .val (.string ((splP 32 s).getD 1 baZ))), (24, .ptr 1 2 0), (6, .ptr 2 0 0), (5, .own 1), (4, .val (.int .i64 0)), (3, .nil), (2, .ptr 0 0 0), (0, .val (.string s))], [(2, ⟨30, 3, true, [[.val (.int .i16 0), .val (.int .i16 0), .val (.int .i16 0)]]⟩), (1, ⟨9, 1, false, strs (splP 32 s)⟩), (0, ⟨30, 3, true, [[.val (.int .i16 0), .val (.int .i16 0), .val (.int .i16 0)]]⟩)], 3⟩) (by exact weak_sl (sub_cons rfl (sub_cons rfl (sub_cons rfl (sub_cons rfl (sub_cons rfl (sub_cons rfl (sub_cons rfl (sub_cons rfl (sub_cons rfl (sub_nil))))))))))) hS22
        refine ⟨⟨_, rfl, rfl, ?_⟩, trivial⟩
        refine g1 ?_
        exact anyS_weak (st' := ⟨[(17, .val (.string ((splP 32 s).getD 0 baZ))), (20, .ptr 1 1 0), (25, .val (.string ((splP 32 s).getD 2 baZ))), (6, .ptr 2 0 0), (5, .own 1), (4, .val (.int .i64 0)), (3, .nil), (2, .ptr 0 0 0), (0, .val (.string s))], [(2, ⟨30, 3, true, [[.val (.int .i16 0), .val (.int .i16 0), .val (.int .i16 0)]]⟩), (1, ⟨9, 1, false, strs (splP 32 s)⟩), (0, ⟨30, 3, true, [[.val (.int .i16 0), .val (.int .i16 0), .val (.int .i16 0)]]⟩)], 3⟩) (by exact weak_sl (sub_cons rfl (sub_cons rfl (sub_cons rfl (sub_cons rfl (sub_cons rfl (sub_cons rfl (sub_cons rfl (sub_cons rfl (sub_cons rfl (sub_nil))))))))))) hS23
      refine anyS_cut (fuel' := 7) (listed' := #[true, true, true, false, true, false, false, false, true, true, true, false, false, true, false]) (st' := ⟨[(17, .val (.string ((splP 32 s).getD 0 baZ))), (19, .own 1), (25, .val (.string ((splP 32 s).getD 2 baZ))), (6, .ptr 2 0 0), (5, .own 1), (4, .val (.int .i64 0)), (3, .nil), (2, .ptr 0 0 0), (0, .val (.string s))], [(2, ⟨30, 3, true, [[.val (.int .i16 0), .val (.int .i16 0), .val (.int .i16 0)]]⟩), (1, ⟨9, 1, false, strs (splP 32 s)⟩), (0, ⟨30, 3, true, [[.val (.int .i16 0), .val (.int .i16 0), .val (.int .i16 0)]]⟩)], 3⟩) ?_ (fun hS34 => ?_)
      · skip
        refine anyS_cons T0_ok hP hm hN (by rfl) [3, 5] (by rfl) rfl ?_
        refine ⟨⟨_, rfl, rfl, ?_⟩, ?_⟩
        · skip
          refine gc1 ?_ (call1 ok_I_short ((splP 32 s).getD 0 baZ) [] (hpre := by (try dsimp only); omega))
          exact anyS_weak (st' := ⟨[(18, .val (.int .i16 (shW ((splP 32 s).getD 0 baZ)))), (19, .own 1), (25, .val (.string ((splP 32 s).getD 2 baZ))), (6, .ptr 2 0 0), (5, .own 1), (4, .val (.int .i64 0)), (3, .nil), (2, .ptr 0 0 0), (0, .val (.string s))], [(2, ⟨30, 3, true, [[.val (.int .i16 0), .val (.int .i16 0), .val (.int .i16 0)]]⟩), (1, ⟨9, 1, false, strs (splP 32 s)⟩), (0, ⟨30, 3, true, [[.val (.int .i16 0), .val (.int .i16 0), .val (.int .i16 0)]]⟩)], 3⟩) (by exact weak_sl (sub_cons rfl (sub_cons rfl (sub_cons rfl (sub_cons rfl (sub_cons rfl (sub_cons rfl (sub_cons rfl (sub_cons rfl (sub_cons rfl (sub_nil))))))))))) hS20
        refine ⟨⟨_, rfl, rfl, ?_⟩, trivial⟩
        refine g1 ?_
        exact anyS_weak (st' := ⟨[(17, .val (.string ((splP 32 s).getD 0 baZ))), (20, .ptr 1 1 0), (25, .val (.string ((splP 32 s).getD 2 baZ))), (6, .ptr 2 0 0), (5, .own 1), (4, .val (.int .i64 0)), (3, .nil), (2, .ptr 0 0 0), (0, .val (.string s))], [(2, ⟨30, 3, true, [[.val (.int .i16 0), .val (.int .i16 0), .val (.int .i16 0)]]⟩), (1, ⟨9, 1, false, strs (splP 32 s)⟩), (0, ⟨30, 3, true, [[.val (.int .i16 0), .val (.int .i16 0), .val (.int .i16 0)]]⟩)], 3⟩) (by exact weak_sl (sub_cons rfl (sub_cons rfl (sub_cons rfl (sub_cons rfl (sub_cons rfl (sub_cons rfl (sub_cons rfl (sub_cons rfl (sub_cons rfl (sub_nil))))))))))) hS23
      refine anyS_cut (fuel' := 7) (listed' := #[true, true, false, false, true, true, true, false, true, true, true, false, false, false, false]) (st' := ⟨[(16, .ptr 1 0 0), (21, .val (.string ((splP 32 s).getD 1 baZ))), (25, .val (.string ((splP 32 s).getD 2 baZ))), (5, .own 1), (4, .val (.int .i64 0)), (3, .nil), (2, .ptr 0 0 0), (0, .val (.string s))], [(1, ⟨9, 1, false, strs (splP 32 s)⟩), (0, ⟨30, 3, true, [[.val (.int .i16 0), .val (.int .i16 0), .val (.int .i16 0)]]⟩)], 2⟩) ?_ (fun hS35 => ?_)
      · skip
        refine anyS_cons T0_ok hP hm hN (by rfl) [2, 13] (by rfl) rfl ?_
        refine ⟨⟨_, rfl, rfl, ?_⟩, ?_⟩
        · skip
          refine g1 ?_
          exact anyS_weak (st' := ⟨[(17, .val (.string ((splP 32 s).getD 0 baZ))), (21, .val (.string ((splP 32 s).getD 1 baZ))), (25, .val (.string ((splP 32 s).getD 2 baZ))), (5, .own 1), (4, .val (.int .i64 0)), (3, .nil), (2, .ptr 0 0 0), (0, .val (.string s))], [(1, ⟨9, 1, false, strs (splP 32 s)⟩), (0, ⟨30, 3, true, [[.val (.int .i16 0), .val (.int .i16 0), .val (.int .i16 0)]]⟩)], 2⟩) (by exact weak_sl (sub_cons rfl (sub_cons rfl (sub_cons rfl (sub_cons rfl (sub_cons rfl (sub_cons rfl (sub_cons rfl (sub_cons rfl (sub_nil)))))))))) hS21
        refine ⟨⟨_, rfl, rfl, ?_⟩, trivial⟩
        refine g1 ?_
        exact anyS_weak (st' := ⟨[(16, .ptr 1 0 0), (21, .val (.string ((splP 32 s).getD 1 baZ))), (25, .val (.string ((splP 32 s).getD 2 baZ))), (6, .ptr 2 0 0), (5, .own 1), (4, .val (.int .i64 0)), (3, .nil), (2, .ptr 0 0 0), (0, .val (.string s))], [(2, ⟨30, 3, true, [[.val (.int .i16 0), .val (.int .i16 0), .val (.int .i16 0)]]⟩), (1, ⟨9, 1, false, strs (splP 32 s)⟩), (0, ⟨30, 3, true, [[.val (.int .i16 0), .val (.int .i16 0), .val (.int .i16 0)]]⟩)], 3⟩) (by exact weak_sl (sub_cons rfl (sub_cons rfl (sub_cons rfl (sub_cons rfl (sub_cons rfl (sub_cons rfl (sub_cons rfl (sub_cons rfl (sub_cons rfl (sub_nil))))))))))) hS24
      refine anyS_cut (fuel' := 7) (listed' := #[true, true, false, false, true, true, true, false, true, true, false, false, false, true, false]) (st' := ⟨[(16, .ptr 1 0 0), (21, .val (.string ((splP 32 s).getD 1 baZ))), (24, .ptr 1 2 0), (6, .ptr 2 0 0), (5, .own 1), (4, .val (.int .i64 0)), (3, .nil), (2, .ptr 0 0 0), (0, .val (.string s))], [(2, ⟨30, 3, true, [[.val (.int .i16 0), .val (.int .i16 0), .val (.int .i16 0)]]⟩), (1, ⟨9, 1, false, strs (splP 32 s)⟩), (0, ⟨30, 3, true, [[.val (.int .i16 0), .val (.int .i16 0), .val (.int .i16 0)]]⟩)], 3⟩) ?_ (fun hS36 => ?_)
      · skip
        refine anyS_cons T0_ok hP hm hN (by rfl) [2, 10] (by rfl) rfl ?_
        refine ⟨⟨_, rfl, rfl, ?_⟩, ?_⟩
        · skip
          refine g1 ?_
          exact anyS_weak (st' := ⟨[(17, .val (.string ((splP 32 s).getD 0 baZ))), (21, .val (.string ((splP 32 s).getD 1 baZ))), (24, .ptr 1 2 0), (6, .ptr 2 0 0), (5, .own 1), (4, .val (.int .i64 0)), (3, .nil), (2, .ptr 0 0 0), (0, .val (.string s))], [(2, ⟨30, 3, true, [[.val (.int .i16 0), .val (.int .i16 0), .val (.int .i16 0)]]⟩), (1, ⟨9, 1, false, strs (splP 32 s)⟩), (0, ⟨30, 3, true, [[.val (.int .i16 0), .val (.int .i16 0), .val (.int .i16 0)]]⟩)], 3⟩) (by exact weak_sl (sub_cons rfl (sub_cons rfl (sub_cons rfl (sub_cons rfl (sub_cons rfl (sub_cons rfl (sub_cons rfl (sub_cons rfl (sub_cons rfl (sub_nil))))))))))) hS22
        refine ⟨⟨_, rfl, rfl, ?_⟩, trivial⟩
        refine g1 ?_
        exact anyS_weak (st' := ⟨[(16, .ptr 1 0 0), (21, .val (.string ((splP 32 s).getD 1 baZ))), (25, .val (.string ((splP 32 s).getD 2 baZ))), (6, .ptr 2 0 0), (5, .own 1), (4, .val (.int .i64 0)), (3, .nil), (2, .ptr 0 0 0), (0, .val (.string s))], [(2, ⟨30, 3, true, [[.val (.int .i16 0), .val (.int .i16 0), .val (.int .i16 0)]]⟩), (1, ⟨9, 1, false, strs (splP 32 s)⟩), (0, ⟨30, 3, true, [[.val (.int .i16 0), .val (.int .i16 0), .val (.int .i16 0)]]⟩)], 3⟩) (by exact weak_sl (sub_cons rfl (sub_cons rfl (sub_cons rfl (sub_cons rfl (sub_cons rfl (sub_cons rfl (sub_cons rfl (sub_cons rfl (sub_cons rfl (sub_nil))))))))))) hS24
      refine anyS_cut (fuel' := 7) (listed' := #[true, true, false, false, true, true, false, false, true, true, true, false, false, true, false]) (st' := ⟨[(16, .ptr 1 0 0), (20, .ptr 1 1 0), (25, .val (.string ((splP 32 s).getD 2 baZ))), (6, .ptr 2 0 0), (5, .own 1), (4, .val (.int .i64 0)), (3, .nil), (2, .ptr 0 0 0), (0, .val (.string s))], [(2, ⟨30, 3, true, [[.val (.int .i16 0), .val (.int .i16 0), .val (.int .i16 0)]]⟩), (1, ⟨9, 1, false, strs (splP 32 s)⟩), (0, ⟨30, 3, true, [[.val (.int .i16 0), .val (.int .i16 0), .val (.int .i16 0)]]⟩)], 3⟩) ?_ (fun hS37 => ?_)
      · skip
        refine anyS_cons T0_ok hP hm hN (by rfl) [2, 6] (by rfl) rfl ?_
        refine ⟨⟨_, rfl, rfl, ?_⟩, ?_⟩
        · skip
          refine g1 ?_
          exact anyS_weak (st' := ⟨[(17, .val (.string ((splP 32 s).getD 0 baZ))), (20, .ptr 1 1 0), (25, .val (.string ((splP 32 s).getD 2 baZ))), (6, .ptr 2 0 0), (5, .own 1), (4, .val (.int .i64 0)), (3, .nil), (2, .ptr 0 0 0), (0, .val (.string s))], [(2, ⟨30, 3, true, [[.val (.int .i16 0), .val (.int .i16 0), .val (.int .i16 0)]]⟩), (1, ⟨9, 1, false, strs (splP 32 s)⟩), (0, ⟨30, 3, true, [[.val (.int .i16 0), .val (.int .i16 0), .val (.int .i16 0)]]⟩)], 3⟩) (by exact weak_sl (sub_cons rfl (sub_cons rfl (sub_cons rfl (sub_cons rfl (sub_cons rfl (sub_cons rfl (sub_cons rfl (sub_cons rfl (sub_cons rfl (sub_nil))))))))))) hS23
        refine ⟨⟨_, rfl, rfl, ?_⟩, trivial⟩
        refine g1 ?_
        exact anyS_weak (st' := ⟨[(16, .ptr 1 0 0), (21, .val (.string ((splP 32 s).getD 1 baZ))), (25, .val (.string ((splP 32 s).getD 2 baZ))), (6, .ptr 2 0 0), (5, .own 1), (4, .val (.int .i64 0)), (3, .nil), (2, .ptr 0 0 0), (0, .val (.string s))], [(2, ⟨30, 3, true, [[.val (.int .i16 0), .val (.int .i16 0), .val (.int .i16 0)]]⟩), (1, ⟨9, 1, false, strs (splP 32 s)⟩), (0, ⟨30, 3, true, [[.val (.int .i16 0), .val (.int .i16 0), .val (.int .i16 0)]]⟩)], 3⟩) (by exact weak_sl (sub_cons rfl (sub_cons rfl (sub_cons rfl (sub_cons rfl (sub_cons rfl (sub_cons rfl (sub_cons rfl (sub_cons rfl (sub_cons rfl (sub_nil))))))))))) hS24
      refine anyS_cut (fuel' := 7) (listed' := #[true, false, false, false, true, true, true, false, true, true, true, false, false, true, false]) (st' := ⟨[(15, .own 1), (21, .val (.string ((splP 32 s).getD 1 baZ))), (25, .val (.string ((splP 32 s).getD 2 baZ))), (6, .ptr 2 0 0), (5, .own 1), (4, .val (.int .i64 0)), (3, .nil), (2, .ptr 0 0 0), (0, .val (.string s))], [(2, ⟨30, 3, true, [[.val (.int .i16 0), .val (.int .i16 0), .val (.int .i16 0)]]⟩), (1, ⟨9, 1, false, strs (splP 32 s)⟩), (0, ⟨30, 3, true, [[.val (.int .i16 0), .val (.int .i16 0), .val (.int .i16 0)]]⟩)], 3⟩) ?_ (fun hS38 => ?_)
      · skip
        refine anyS_cons T0_ok hP hm hN (by rfl) [1] (by rfl) rfl ?_
        refine ⟨⟨_, rfl, rfl, ?_⟩, trivial⟩
        refine g1 ?_
        exact anyS_weak (st' := ⟨[(16, .ptr 1 0 0), (21, .val (.string ((splP 32 s).getD 1 baZ))), (25, .val (.string ((splP 32 s).getD 2 baZ))), (6, .ptr 2 0 0), (5, .own 1), (4, .val (.int .i64 0)), (3, .nil), (2, .ptr 0 0 0), (0, .val (.string s))], [(2, ⟨30, 3, true, [[.val (.int .i16 0), .val (.int .i16 0), .val (.int .i16 0)]]⟩), (1, ⟨9, 1, false, strs (splP 32 s)⟩), (0, ⟨30, 3, true, [[.val (.int .i16 0), .val (.int .i16 0), .val (.int .i16 0)]]⟩)], 3⟩) (by exact weak_sl (sub_cons rfl (sub_cons rfl (sub_cons rfl (sub_cons rfl (sub_cons rfl (sub_cons rfl (sub_cons rfl (sub_cons rfl (sub_cons rfl (sub_nil))))))))))) hS24
      refine anyS_cut (fuel' := 8) (listed' := #[true, true, true, true, true, true, false, false, true, false, false, false, false, false, false]) (st' := ⟨[(18, .val (.int .i16 (shW ((splP 32 s).getD 0 baZ)))), (20, .ptr 1 1 0), (23, .own 1), (5, .own 1), (4, .val (.int .i64 0)), (3, .nil), (2, .ptr 0 0 0), (0, .val (.string s))], [(1, ⟨9, 1, false, strs (splP 32 s)⟩), (0, ⟨30, 3, true, [[.val (.int .i16 0), .val (.int .i16 0), .val (.int .i16 0)]]⟩)], 2⟩) ?_ (fun hS39 => ?_)
      · skip
        refine anyS_cons T0_ok hP hm hN (by rfl) [6, 9, 13] (by rfl) rfl ?_
        refine ⟨⟨_, rfl, rfl, ?_⟩, ?_⟩
        · skip
          refine g1 ?_
          exact anyS_weak (st' := ⟨[(18, .val (.int .i16 (shW ((splP 32 s).getD 0 baZ)))), (21, .val (.string ((splP 32 s).getD 1 baZ))), (23, .own 1), (5, .own 1), (4, .val (.int .i64 0)), (3, .nil), (2, .ptr 0 0 0), (0, .val (.string s))], [(1, ⟨9, 1, false, strs (splP 32 s)⟩), (0, ⟨30, 3, true, [[.val (.int .i16 0), .val (.int .i16 0), .val (.int .i16 0)]]⟩)], 2⟩) (by exact weak_sl (sub_cons rfl (sub_cons rfl (sub_cons rfl (sub_cons rfl (sub_cons rfl (sub_cons rfl (sub_cons rfl (sub_cons rfl (sub_nil)))))))))) hS25
        refine ⟨⟨_, rfl, rfl, ?_⟩, ?_⟩
        · skip
          refine g1 ?_
          exact anyS_weak (st' := ⟨[(18, .val (.int .i16 (shW ((splP 32 s).getD 0 baZ)))), (20, .ptr 1 1 0), (24, .ptr 1 2 0), (5, .own 1), (4, .val (.int .i64 0)), (3, .nil), (2, .ptr 0 0 0), (0, .val (.string s))], [(1, ⟨9, 1, false, strs (splP 32 s)⟩), (0, ⟨30, 3, true, [[.val (.int .i16 0), .val (.int .i16 0), .val (.int .i16 0)]]⟩)], 2⟩) (by exact weak_sl (sub_cons rfl (sub_cons rfl (sub_cons rfl (sub_cons rfl (sub_cons rfl (sub_cons rfl (sub_cons rfl (sub_cons rfl (sub_nil)))))))))) hS26
        refine ⟨⟨_, rfl, rfl, ?_⟩, trivial⟩
        refine g1 ?_
        exact anyS_weak (st' := ⟨[(18, .val (.int .i16 (shW ((splP 32 s).getD 0 baZ)))), (20, .ptr 1 1 0), (23, .own 1), (6, .ptr 2 0 0), (5, .own 1), (4, .val (.int .i64 0)), (3, .nil), (2, .ptr 0 0 0), (0, .val (.string s))], [(2, ⟨30, 3, true, [[.val (.int .i16 0), .val (.int .i16 0), .val (.int .i16 0)]]⟩), (1, ⟨9, 1, false, strs (splP 32 s)⟩), (0, ⟨30, 3, true, [[.val (.int .i16 0), .val (.int .i16 0), .val (.int .i16 0)]]⟩)], 3⟩) (by exact weak_sl (sub_cons rfl (sub_cons rfl (sub_cons rfl (sub_cons rfl (sub_cons rfl (sub_cons rfl (sub_cons rfl (sub_cons rfl (sub_cons rfl (sub_nil))))))))))) hS27
      refine anyS_cut (fuel' := 8) (listed' := #[true, true, true, true, true, false, false, false, true, true, false, false, false, false, false]) (st' := ⟨[(18, .val (.int .i16 (shW ((splP 32 s).getD 0 baZ)))), (19, .own 1), (24, .ptr 1 2 0), (5, .own 1), (4, .val (.int .i64 0)), (3, .nil), (2, .ptr 0 0 0), (0, .val (.string s))], [(1, ⟨9, 1, false, strs (splP 32 s)⟩), (0, ⟨30, 3, true, [[.val (.int .i16 0), .val (.int .i16 0), .val (.int .i16 0)]]⟩)], 2⟩) ?_ (fun hS40 => ?_)
      · skip
        refine anyS_cons T0_ok hP hm hN (by rfl) [5, 10, 13] (by rfl) rfl ?_
        refine ⟨⟨_, rfl, rfl, ?_⟩, ?_⟩
        · skip
          refine g1 ?_
          exact anyS_weak (st' := ⟨[(18, .val (.int .i16 (shW ((splP 32 s).getD 0 baZ)))), (20, .ptr 1 1 0), (24, .ptr 1 2 0), (5, .own 1), (4, .val (.int .i64 0)), (3, .nil), (2, .ptr 0 0 0), (0, .val (.string s))], [(1, ⟨9, 1, false, strs (splP 32 s)⟩), (0, ⟨30, 3, true, [[.val (.int .i16 0), .val (.int .i16 0), .val (.int .i16 0)]]⟩)], 2⟩) (by exact weak_sl (sub_cons rfl (sub_cons rfl (sub_cons rfl (sub_cons rfl (sub_cons rfl (sub_cons rfl (sub_cons rfl (sub_cons rfl (sub_nil)))))))))) hS26
        refine ⟨⟨_, rfl, rfl, ?_⟩, ?_⟩
        · skip
          refine g1 ?_
          exact anyS_weak (st' := ⟨[(18, .val (.int .i16 (shW ((splP 32 s).getD 0 baZ)))), (19, .own 1), (25, .val (.string ((splP 32 s).getD 2 baZ))), (5, .own 1), (4, .val (.int .i64 0)), (3, .nil), (2, .ptr 0 0 0), (0, .val (.string s))], [(1, ⟨9, 1, false, strs (splP 32 s)⟩), (0, ⟨30, 3, true, [[.val (.int .i16 0), .val (.int .i16 0), .val (.int .i16 0)]]⟩)], 2⟩) (by exact weak_sl (sub_cons rfl (sub_cons rfl (sub_cons rfl (sub_cons rfl (sub_cons rfl (sub_cons rfl (sub_cons rfl (sub_cons rfl (sub_nil)))))))))) hS28
        refine ⟨⟨_, rfl, rfl, ?_⟩, trivial⟩
        refine g1 ?_
        exact anyS_weak (st' := ⟨[(18, .val (.int .i16 (shW ((splP 32 s).getD 0 baZ)))), (19, .own 1), (24, .ptr 1 2 0), (6, .ptr 2 0 0), (5, .own 1), (4, .val (.int .i64 0)), (3, .nil), (2, .ptr 0 0 0), (0, .val (.string s))], [(2, ⟨30, 3, true, [[.val (.int .i16 0), .val (.int .i16 0), .val (.int .i16 0)]]⟩), (1, ⟨9, 1, false, strs (splP 32 s)⟩), (0, ⟨30, 3, true, [[.val (.int .i16 0), .val (.int .i16 0), .val (.int .i16 0)]]⟩)], 3⟩) (by exact weak_sl (sub_cons rfl (sub_cons rfl (sub_cons rfl (sub_cons rfl (sub_cons rfl (sub_cons rfl (sub_cons rfl (sub_cons rfl (sub_cons rfl (sub_nil))))))))))) hS29
      refine anyS_cut (fuel' := 8) (listed' := #[true, true, true, true, true, false, false, false, true, false, false, false, false, true, false]) (st' := ⟨[(18, .val (.int .i16 (shW ((splP 32 s).getD 0 baZ)))), (19, .own 1), (23, .own 1), (6, .ptr 2 0 0), (5, .own 1), (4, .val (.int .i64 0)), (3, .nil), (2, .ptr 0 0 0), (0, .val (.string s))], [(2, ⟨30, 3, true, [[.val (.int .i16 0), .val (.int .i16 0), .val (.int .i16 0)]]⟩), (1, ⟨9, 1, false, strs (splP 32 s)⟩), (0, ⟨30, 3, true, [[.val (.int .i16 0), .val (.int .i16 0), .val (.int .i16 0)]]⟩)], 3⟩) ?_ (fun hS41 => ?_)
      · skip
        refine anyS_cons T0_ok hP hm hN (by rfl) [5, 9] (by rfl) rfl ?_
        refine ⟨⟨_, rfl, rfl, ?_⟩, ?_⟩
        · skip
          refine g1 ?_
          exact anyS_weak (st' := ⟨[(18, .val (.int .i16 (shW ((splP 32 s).getD 0 baZ)))), (20, .ptr 1 1 0), (23, .own 1), (6, .ptr 2 0 0), (5, .own 1), (4, .val (.int .i64 0)), (3, .nil), (2, .ptr 0 0 0), (0, .val (.string s))], [(2, ⟨30, 3, true, [[.val (.int .i16 0), .val (.int .i16 0), .val (.int .i16 0)]]⟩), (1, ⟨9, 1, false, strs (splP 32 s)⟩), (0, ⟨30, 3, true, [[.val (.int .i16 0), .val (.int .i16 0), .val (.int .i16 0)]]⟩)], 3⟩) (by exact weak_sl (sub_cons rfl (sub_cons rfl (sub_cons rfl (sub_cons rfl (sub_cons rfl (sub_cons rfl (sub_cons rfl (sub_cons rfl (sub_cons rfl (sub_nil))))))))))) hS27
        refine ⟨⟨_, rfl, rfl, ?_⟩, trivial⟩
        refine g1 ?_
        exact anyS_weak (st' := ⟨[(18, .val (.int .i16 (shW ((splP 32 s).getD 0 baZ)))), (19, .own 1), (24, .ptr 1 2 0), (6, .ptr 2 0 0), (5, .own 1), (4, .val (.int .i64 0)), (3, .nil), (2, .ptr 0 0 0), (0, .val (.string s))], [(2, ⟨30, 3, true, [[.val (.int .i16 0), .val (.int .i16 0), .val (.int .i16 0)]]⟩), (1, ⟨9, 1, false, strs (splP 32 s)⟩), (0, ⟨30, 3, true, [[.val (.int .i16 0), .val (.int .i16 0), .val (.int .i16 0)]]⟩)], 3⟩) (by exact weak_sl (sub_cons rfl (sub_cons rfl (sub_cons rfl (sub_cons rfl (sub_cons rfl (sub_cons rfl (sub_cons rfl (sub_cons rfl (sub_cons rfl (sub_nil))))))))))) hS29
      refine anyS_cut (fuel' := 8) (listed' := #[true, true, true, false, true, true, true, false, true, false, false, false, false, false, false]) (st' := ⟨[(17, .val (.string ((splP 32 s).getD 0 baZ))), (21, .val (.string ((splP 32 s).getD 1 baZ))), (23, .own 1), (5, .own 1), (4, .val (.int .i64 0)), (3, .nil), (2, .ptr 0 0 0), (0, .val (.string s))], [(1, ⟨9, 1, false, strs (splP 32 s)⟩), (0, ⟨30, 3, true, [[.val (.int .i16 0), .val (.int .i16 0), .val (.int .i16 0)]]⟩)], 2⟩) ?_ (fun hS42 => ?_)
      · skip
        refine anyS_cons T0_ok hP hm hN (by rfl) [3, 9, 13] (by rfl) rfl ?_
        refine ⟨⟨_, rfl, rfl, ?_⟩, ?_⟩
        · skip
          refine gc1 ?_ (call1 ok_I_short ((splP 32 s).getD 0 baZ) [] (hpre := by (try dsimp only); omega))
          exact anyS_weak (st' := ⟨[(18, .val (.int .i16 (shW ((splP 32 s).getD 0 baZ)))), (21, .val (.string ((splP 32 s).getD 1 baZ))), (23, .own 1), (5, .own 1), (4, .val (.int .i64 0)), (3, .nil), (2, .ptr 0 0 0), (0, .val (.string s))], [(1, ⟨9, 1, false, strs (splP 32 s)⟩), (0, ⟨30, 3, true, [[.val (.int .i16 0), .val (.int .i16 0), .val (.int .i16 0)]]⟩)], 2⟩) (by exact weak_sl (sub_cons rfl (sub_cons rfl (sub_cons rfl (sub_cons rfl (sub_cons rfl (sub_cons rfl (sub_cons rfl (sub_cons rfl (sub_nil)))))))))) hS25
        refine ⟨⟨_, rfl, rfl, ?_⟩, ?_⟩
        · skip
          refine g1 ?_
          exact anyS_weak (st' := ⟨[(17, .val (.string ((splP 32 s).getD 0 baZ))), (21, .val (.string ((splP 32 s).getD 1 baZ))), (24, .ptr 1 2 0), (5, .own 1), (4, .val (.int .i64 0)), (3, .nil), (2, .ptr 0 0 0), (0, .val (.string s))], [(1, ⟨9, 1, false, strs (splP 32 s)⟩), (0, ⟨30, 3, true, [[.val (.int .i16 0), .val (.int .i16 0), .val (.int .i16 0)]]⟩)], 2⟩) (by exact weak_sl (sub_cons rfl (sub_cons rfl (sub_cons rfl (sub_cons rfl (sub_cons rfl (sub_cons rfl (sub_cons rfl (sub_cons rfl (sub_nil)))))))))) hS30
        refine ⟨⟨_, rfl, rfl, ?_⟩, trivial⟩
        refine g1 ?_
        exact anyS_weak (st' := ⟨[(17, .val (.string ((splP 32 s).getD 0 baZ))), (21, .val (.string ((splP 32 s).getD 1 baZ))), (23, .own 1), (6, .ptr 2 0 0), (5, .own 1), (4, .val (.int .i64 0)), (3, .nil), (2, .ptr 0 0 0), (0, .val (.string s))], [(2, ⟨30, 3, true, [[.val (.int .i16 0), .val (.int .i16 0), .val (.int .i16 0)]]⟩), (1, ⟨9, 1, false, strs (splP 32 s)⟩), (0, ⟨30, 3, true, [[.val (.int .i16 0), .val (.int .i16 0), .val (.int .i16 0)]]⟩)], 3⟩) (by exact weak_sl (sub_cons rfl (sub_cons rfl (sub_cons rfl (sub_cons rfl (sub_cons rfl (sub_cons rfl (sub_cons rfl (sub_cons rfl (sub_cons rfl (sub_nil))))))))))) hS31
      refine anyS_cut (fuel' := 8) (listed' := #[true, true, true, false, true, true, false, false, true, true, false, false, false, false, false]) (st' := ⟨[(17, .val (.string ((splP 32 s).getD 0 baZ))), (20, .ptr 1 1 0), (24, .ptr 1 2 0), (5, .own 1), (4, .val (.int .i64 0)), (3, .nil), (2, .ptr 0 0 0), (0, .val (.string s))], [(1, ⟨9, 1, false, strs (splP 32 s)⟩), (0, ⟨30, 3, true, [[.val (.int .i16 0), .val (.int .i16 0), .val (.int .i16 0)]]⟩)], 2⟩) ?_ (fun hS43 => ?_)
      · skip
        refine anyS_cons T0_ok hP hm hN (by rfl) [3, 6, 10, 13] (by rfl) rfl ?_
        refine ⟨⟨_, rfl, rfl, ?_⟩, ?_⟩
        · skip
          refine gc1 ?_ (call1 ok_I_short ((splP 32 s).getD 0 baZ) [] (hpre := by (try dsimp only); omega))
          exact anyS_weak (st' := ⟨[(18, .val (.int .i16 (shW ((splP 32 s).getD 0 baZ)))), (20, .ptr 1 1 0), (24, .ptr 1 2 0), (5, .own 1), (4, .val (.int .i64 0)), (3, .nil), (2, .ptr 0 0 0), (0, .val (.string s))], [(1, ⟨9, 1, false, strs (splP 32 s)⟩), (0, ⟨30, 3, true, [[.val (.int .i16 0), .val (.int .i16 0), .val (.int .i16 0)]]⟩)], 2⟩) (by exact weak_sl (sub_cons rfl (sub_cons rfl (sub_cons rfl (sub_cons rfl (sub_cons rfl (sub_cons rfl (sub_cons rfl (sub_cons rfl (sub_nil)))))))))) hS26
        refine ⟨⟨_, rfl, rfl, ?_⟩, ?_⟩
        · skip
          refine g1 ?_
          exact anyS_weak (st' := ⟨[(17, .val (.string ((splP 32 s).getD 0 baZ))), (21, .val (.string ((splP 32 s).getD 1 baZ))), (24, .ptr 1 2 0), (5, .own 1), (4, .val (.int .i64 0)), (3, .nil), (2, .ptr 0 0 0), (0, .val (.string s))], [(1, ⟨9, 1, false, strs (splP 32 s)⟩), (0, ⟨30, 3, true, [[.val (.int .i16 0), .val (.int .i16 0), .val (.int .i16 0)]]⟩)], 2⟩) (by exact weak_sl (sub_cons rfl (sub_cons rfl (sub_cons rfl (sub_cons rfl (sub_cons rfl (sub_cons rfl (sub_cons rfl (sub_cons rfl (sub_nil)))))))))) hS30
        refine ⟨⟨_, rfl, rfl, ?_⟩, ?_⟩
        · skip
          refine g1 ?_
          exact anyS_weak (st' := ⟨[(17, .val (.string ((splP 32 s).getD 0 baZ))), (20, .ptr 1 1 0), (25, .val (.string ((splP 32 s).getD 2 baZ))), (5, .own 1), (4, .val (.int .i64 0)), (3, .nil), (2, .ptr 0 0 0), (0, .val (.string s))], [(1, ⟨9, 1, false, strs (splP 32 s)⟩), (0, ⟨30, 3, true, [[.val (.int .i16 0), .val (.int .i16 0), .val (.int .i16 0)]]⟩)], 2⟩) (by exact weak_sl (sub_cons rfl (sub_cons rfl (sub_cons rfl (sub_cons rfl (sub_cons rfl (sub_cons rfl (sub_cons rfl (sub_cons rfl (sub_nil)))))))))) hS32
        refine ⟨⟨_, rfl, rfl, ?_⟩, trivial⟩
        refine g1 ?_
        exact anyS_weak (st' := ⟨[(17, .val (.string ((splP 32 s).getD 0 baZ))), (20, .ptr 1 1 0), (24, .ptr 1 2 0), (6, .ptr 2 0 0), (5, .own 1), (4, .val (.int .i64 0)), (3, .nil), (2, .ptr 0 0 0), (0, .val (.string s))], [(2, ⟨30, 3, true, [[.val (.int .i16 0), .val (.int .i16 0), .val (.int .i16 0)]]⟩), (1, ⟨9, 1, false, strs (splP 32 s)⟩), (0, ⟨30, 3, true, [[.val (.int .i16 0), .val (.int .i16 0), .val (.int .i16 0)]]⟩)], 3⟩) (by exact weak_sl (sub_cons rfl (sub_cons rfl (sub_cons rfl (sub_cons rfl (sub_cons rfl (sub_cons rfl (sub_cons rfl (sub_cons rfl (sub_cons rfl (sub_nil))))))))))) hS33
      refine anyS_cut (fuel' := 8) (listed' := #[true, true, true, false, true, true, false, false, true, false, false, false, false, true, false]) (st' := ⟨[(17, .val (.string ((splP 32 s).getD 0 baZ))), (20, .ptr 1 1 0), (23, .own 1), (6, .ptr 2 0 0), (5, .own 1), (4, .val (.int .i64 0)), (3, .nil), (2, .ptr 0 0 0), (0, .val (.string s))], [(2, ⟨30, 3, true, [[.val (.int .i16 0), .val (.int .i16 0), .val (.int .i16 0)]]⟩), (1, ⟨9, 1, false, strs (splP 32 s)⟩), (0, ⟨30, 3, true, [[.val (.int .i16 0), .val (.int .i16 0), .val (.int .i16 0)]]⟩)], 3⟩) ?_ (fun hS44 => ?_)
      · skip
        refine anyS_cons T0_ok hP hm hN (by rfl) [3, 6, 9] (by rfl) rfl ?_
        refine ⟨⟨_, rfl, rfl, ?_⟩, ?_⟩
        · skip
          refine gc1 ?_ (call1 ok_I_short ((splP 32 s).getD 0 baZ) [] (hpre := by (try dsimp only); omega))
          exact anyS_weak (st' := ⟨[(18, .val (.int .i16 (shW ((splP 32 s).getD 0 baZ)))), (20, .ptr 1 1 0), (23, .own 1), (6, .ptr 2 0 0), (5, .own 1), (4, .val (.int .i64 0)), (3, .nil), (2, .ptr 0 0 0), (0, .val (.string s))], [(2, ⟨30, 3, true, [[.val (.int .i16 0), .val (.int .i16 0), .val (.int .i16 0)]]⟩), (1, ⟨9, 1, false, strs (splP 32 s)⟩), (0, ⟨30, 3, true, [[.val (.int .i16 0), .val (.int .i16 0), .val (.int .i16 0)]]⟩)], 3⟩) (by exact weak_sl (sub_cons rfl (sub_cons rfl (sub_cons rfl (sub_cons rfl (sub_cons rfl (sub_cons rfl (sub_cons rfl (sub_cons rfl (sub_cons rfl (sub_nil))))))))))) hS27
        refine ⟨⟨_, rfl, rfl, ?_⟩, ?_⟩
        · skip
          refine g1 ?_
          exact anyS_weak (st' := ⟨[(17, .val (.string ((splP 32 s).getD 0 baZ))), (21, .val (.string ((splP 32 s).getD 1 baZ))), (23, .own 1), (6, .ptr 2 0 0), (5, .own 1), (4, .val (.int .i64 0)), (3, .nil), (2, .ptr 0 0 0), (0, .val (.string s))], [(2, ⟨30, 3, true, [[.val (.int .i16 0), .val (.int .i16 0), .val (.int .i16 0)]]⟩), (1, ⟨9, 1, false, strs (splP 32 s)⟩), (0, ⟨30, 3, true, [[.val (.int .i16 0), .val (.int .i16 0), .val (.int .i16 0)]]⟩)], 3⟩) (by exact weak_sl (sub_cons rfl (sub_cons rfl (sub_cons rfl (sub_cons rfl (sub_cons rfl (sub_cons rfl (sub_cons rfl (sub_cons rfl (sub_cons rfl (sub_nil))))))))))) hS31
        refine ⟨⟨_, rfl, rfl, ?_⟩, trivial⟩
        refine g1 ?_
        exact anyS_weak (st' := ⟨[(17, .val (.string ((splP 32 s).getD 0 baZ))), (20, .ptr 1 1 0), (24, .ptr 1 2 0), (6, .ptr 2 0 0), (5, .own 1), (4, .val (.int .i64 0)), (3, .nil), (2, .ptr 0 0 0), (0, .val (.string s))], [(2, ⟨30, 3, true, [[.val (.int .i16 0), .val (.int .i16 0), .val (.int .i16 0)]]⟩), (1, ⟨9, 1, false, strs (splP 32 s)⟩), (0, ⟨30, 3, true, [[.val (.int .i16 0), .val (.int .i16 0), .val (.int .i16 0)]]⟩)], 3⟩) (by exact weak_sl (sub_cons rfl (sub_cons rfl (sub_cons rfl (sub_cons rfl (sub_cons rfl (sub_cons rfl (sub_cons rfl (sub_cons rfl (sub_cons rfl (sub_nil))))))))))) hS33
      refine anyS_cut (fuel' := 8) (listed' := #[true, true, true, false, true, false, false, false, true, true, true, false, false, false, false]) (st' := ⟨[(17, .val (.string ((splP 32 s).getD 0 baZ))), (19, .own 1), (25, .val (.string ((splP 32 s).getD 2 baZ))), (5, .own 1), (4, .val (.int .i64 0)), (3, .nil), (2, .ptr 0 0 0), (0, .val (.string s))], [(1, ⟨9, 1, false, strs (splP 32 s)⟩), (0, ⟨30, 3, true, [[.val (.int .i16 0), .val (.int .i16 0), .val (.int .i16 0)]]⟩)], 2⟩) ?_ (fun hS45 => ?_)
      · skip
        refine anyS_cons T0_ok hP hm hN (by rfl) [3, 5, 13] (by rfl) rfl ?_
        refine ⟨⟨_, rfl, rfl, ?_⟩, ?_⟩
        · skip
          refine gc1 ?_ (call1 ok_I_short ((splP 32 s).getD 0 baZ) [] (hpre := by (try dsimp only); omega))
          exact anyS_weak (st' := ⟨[(18, .val (.int .i16 (shW ((splP 32 s).getD 0 baZ)))), (19, .own 1), (25, .val (.string ((splP 32 s).getD 2 baZ))), (5, .own 1), (4, .val (.int .i64 0)), (3, .nil), (2, .ptr 0 0 0), (0, .val (.string s))], [(1, ⟨9, 1, false, strs (splP 32 s)⟩), (0, ⟨30, 3, true, [[.val (.int .i16 0), .val (.int .i16 0), .val (.int .i16 0)]]⟩)], 2⟩) (by exact weak_sl (sub_cons rfl (sub_cons rfl (sub_cons rfl (sub_cons rfl (sub_cons rfl (sub_cons rfl (sub_cons rfl (sub_cons rfl (sub_nil)))))))))) hS28
        refine ⟨⟨_, rfl, rfl, ?_⟩, ?_⟩
        · skip
          refine g1 ?_
          exact anyS_weak (st' := ⟨[(17, .val (.string ((splP 32 s).getD 0 baZ))), (20, .ptr 1 1 0), (25, .val (.string ((splP 32 s).getD 2 baZ))), (5, .own 1), (4, .val (.int .i64 0)), (3, .nil), (2, .ptr 0 0 0), (0, .val (.string s))], [(1, ⟨9, 1, false, strs (splP 32 s)⟩), (0, ⟨30, 3, true, [[.val (.int .i16 0), .val (.int .i16 0), .val (.int .i16 0)]]⟩)], 2⟩) (by exact weak_sl (sub_cons rfl (sub_cons rfl (sub_cons rfl (sub_cons rfl (sub_cons rfl (sub_cons rfl (sub_cons rfl (sub_cons rfl (sub_nil)))))))))) hS32
        refine ⟨⟨_, rfl, rfl, ?_⟩, trivial⟩
        refine g1 ?_
        exact anyS_weak (st' := ⟨[(17, .val (.string ((splP 32 s).getD 0 baZ))), (19, .own 1), (25, .val (.string ((splP 32 s).getD 2 baZ))), (6, .ptr 2 0 0), (5, .own 1), (4, .val (.int .i64 0)), (3, .nil), (2, .ptr 0 0 0), (0, .val (.string s))], [(2, ⟨30, 3, true, [[.val (.int .i16 0), .val (.int .i16 0), .val (.int .i16 0)]]⟩), (1, ⟨9, 1, false, strs (splP 32 s)⟩), (0, ⟨30, 3, true, [[.val (.int .i16 0), .val (.int .i16 0), .val (.int .i16 0)]]⟩)], 3⟩) (by exact weak_sl (sub_cons rfl (sub_cons rfl (sub_cons rfl (sub_cons rfl (sub_cons rfl (sub_cons rfl (sub_cons rfl (sub_cons rfl (sub_cons rfl (sub_nil))))))))))) hS34
      refine anyS_cut (fuel' := 8) (listed' := #[true, true, true, false, true, false, false, false, true, true, false, false, false, true, false]) (st' := ⟨[(17, .val (.string ((splP 32 s).getD 0 baZ))), (19, .own 1), (24, .ptr 1 2 0), (6, .ptr 2 0 0), (5, .own 1), (4, .val (.int .i64 0)), (3, .nil), (2, .ptr 0 0 0), (0, .val (.string s))], [(2, ⟨30, 3, true, [[.val (.int .i16 0), .val (.int .i16 0), .val (.int .i16 0)]]⟩), (1, ⟨9, 1, false, strs (splP 32 s)⟩), (0, ⟨30, 3, true, [[.val (.int .i16 0), .val (.int .i16 0), .val (.int .i16 0)]]⟩)], 3⟩) ?_ (fun hS46 => ?_)
      · skip
        refine anyS_cons T0_ok hP hm hN (by rfl) [3, 5, 10] (by rfl) rfl ?_
        refine ⟨⟨_, rfl, rfl, ?_⟩, ?_⟩
        · skip
          refine gc1 ?_ (call1 ok_I_short ((splP 32 s).getD 0 baZ) [] (hpre := by (try dsimp only); omega))
          exact anyS_weak (st' := ⟨[(18, .val (.int .i16 (shW ((splP 32 s).getD 0 baZ)))), (19, .own 1), (24, .ptr 1 2 0), (6, .ptr 2 0 0), (5, .own 1), (4, .val (.int .i64 0)), (3, .nil), (2, .ptr 0 0 0), (0, .val (.string s))], [(2, ⟨30, 3, true, [[.val (.int .i16 0), .val (.int .i16 0), .val (.int .i16 0)]]⟩), (1, ⟨9, 1, false, strs (splP 32 s)⟩), (0, ⟨30, 3, true, [[.val (.int .i16 0), .val (.int .i16 0), .val (.int .i16 0)]]⟩)], 3⟩) (by exact weak_sl (sub_cons rfl (sub_cons rfl (sub_cons rfl (sub_cons rfl (sub_cons rfl (sub_cons rfl (sub_cons rfl (sub_cons rfl (sub_cons rfl (sub_nil))))))))))) hS29
        refine ⟨⟨_, rfl, rfl, ?_⟩, ?_⟩
        · skip
          refine g1 ?_
          exact anyS_weak (st' := ⟨[(17, .val (.string ((splP 32 s).getD 0 baZ))), (20, .ptr 1 1 0), (24, .ptr 1 2 0), (6, .ptr 2 0 0), (5, .own 1), (4, .val (.int .i64 0)), (3, .nil), (2, .ptr 0 0 0), (0, .val (.string s))], [(2, ⟨30, 3, true, [[.val (.int .i16 0), .val (.int .i16 0), .val (.int .i16 0)]]⟩), (1, ⟨9, 1, false, strs (splP 32 s)⟩), (0, ⟨30, 3, true, [[.val (.int .i16 0), .val (.int .i16 0), .val (.int .i16 0)]]⟩)], 3⟩) (by exact weak_sl (sub_cons rfl (sub_cons rfl (sub_cons rfl (sub_cons rfl (sub_cons rfl (sub_cons rfl (sub_cons rfl (sub_cons rfl (sub_cons rfl (sub_nil))))))))))) hS33
        refine ⟨⟨_, rfl, rfl, ?_⟩, trivial⟩
        refine g1 ?_
        exact anyS_weak (st' := ⟨[(17, .val (.string ((splP 32 s).getD 0 baZ))), (19, .own 1), (25, .val (.string ((splP 32 s).getD 2 baZ))), (6, .ptr 2 0 0), (5, .own 1), (4, .val (.int .i64 0)), (3, .nil), (2, .ptr 0 0 0), (0, .val (.string s))], [(2, ⟨30, 3, true, [[.val (.int .i16 0), .val (.int .i16 0), .val (.int .i16 0)]]⟩), (1, ⟨9, 1, false, strs (splP 32 s)⟩), (0, ⟨30, 3, true, [[.val (.int .i16 0), .val (.int .i16 0), .val (.int .i16 0)]]⟩)], 3⟩) (by exact weak_sl (sub_cons rfl (sub_cons rfl (sub_cons rfl (sub_cons rfl (sub_cons rfl (sub_cons rfl (sub_cons rfl (sub_cons rfl (sub_cons rfl (sub_nil))))))))))) hS34
      refine anyS_cut (fuel' := 8) (listed' := #[true, true, false, false, true, true, true, false, true, true, false, false, false, false, false]) (st' := ⟨[(16, .ptr 1 0 0), (21, .val (.string ((splP 32 s).getD 1 baZ))), (24, .ptr 1 2 0), (5, .own 1), (4, .val (.int .i64 0)), (3, .nil), (2, .ptr 0 0 0), (0, .val (.string s))], [(1, ⟨9, 1, false, strs (splP 32 s)⟩), (0, ⟨30, 3, true, [[.val (.int .i16 0), .val (.int .i16 0), .val (.int .i16 0)]]⟩)], 2⟩) ?_ (fun hS47 => ?_)
      · skip
        refine anyS_cons T0_ok hP hm hN (by rfl) [2, 10, 13] (by rfl) rfl ?_
        refine ⟨⟨_, rfl, rfl, ?_⟩, ?_⟩
        · skip
          refine g1 ?_
          exact anyS_weak (st' := ⟨[(17, .val (.string ((splP 32 s).getD 0 baZ))), (21, .val (.string ((splP 32 s).getD 1 baZ))), (24, .ptr 1 2 0), (5, .own 1), (4, .val (.int .i64 0)), (3, .nil), (2, .ptr 0 0 0), (0, .val (.string s))], [(1, ⟨9, 1, false, strs (splP 32 s)⟩), (0, ⟨30, 3, true, [[.val (.int .i16 0), .val (.int .i16 0), .val (.int .i16 0)]]⟩)], 2⟩) (by exact weak_sl (sub_cons rfl (sub_cons rfl (sub_cons rfl (sub_cons rfl (sub_cons rfl (sub_cons rfl (sub_cons rfl (sub_cons rfl (sub_nil)))))))))) hS30
        refine ⟨⟨_, rfl, rfl, ?_⟩, ?_⟩
        · skip
          refine g1 ?_
          exact anyS_weak (st' := ⟨[(16, .ptr 1 0 0), (21, .val (.string ((splP 32 s).getD 1 baZ))), (25, .val (.string ((splP 32 s).getD 2 baZ))), (5, .own 1), (4, .val (.int .i64 0)), (3, .nil), (2, .ptr 0 0 0), (0, .val (.string s))], [(1, ⟨9, 1, false, strs (splP 32 s)⟩), (0, ⟨30, 3, true, [[.val (.int .i16 0), .val (.int .i16 0), .val (.int .i16 0)]]⟩)], 2⟩) (by exact weak_sl (sub_cons rfl (sub_cons rfl (sub_cons rfl (sub_cons rfl (sub_cons rfl (sub_cons rfl (sub_cons rfl (sub_cons rfl (sub_nil)))))))))) hS35
        refine ⟨⟨_, rfl, rfl, ?_⟩, trivial⟩
        refine g1 ?_
        exact anyS_weak (st' := ⟨[(16, .ptr 1 0 0), (21, .val (.string ((splP 32 s).getD 1 baZ))), (24, .ptr 1 2 0), (6, .ptr 2 0 0), (5, .own 1), (4, .val (.int .i64 0)), (3, .nil), (2, .ptr 0 0 0), (0, .val (.string s))], [(2, ⟨30, 3, true, [[.val (.int .i16 0), .val (.int .i16 0), .val (.int .i16 0)]]⟩), (1, ⟨9, 1, false, strs (splP 32 s)⟩), (0, ⟨30, 3, true, [[.val (.int .i16 0), .val (.int .i16 0), .val (.int .i16 0)]]⟩)], 3⟩) (by exact weak_sl (sub_cons rfl (sub_cons rfl (sub_cons rfl (sub_cons rfl (sub_cons rfl (sub_cons rfl (sub_cons rfl (sub_cons rfl (sub_cons rfl (sub_nil))))))))))) hS36
      refine anyS_cut (fuel' := 8) (listed' := #[true, true, false, false, true, true, true, false, true, false, false, false, false, true, false]) (st' := ⟨[(16, .ptr 1 0 0), (21, .val (.string ((splP 32 s).getD 1 baZ))), (23, .own 1), (6, .ptr 2 0 0), (5, .own 1), (4, .val (.int .i64 0)), (3, .nil), (2, .ptr 0 0 0), (0, .val (.string s))], [(2, ⟨30, 3, true, [[.val (.int .i16 0), .val (.int .i16 0), .val (.int .i16 0)]]⟩), (1, ⟨9, 1, false, strs (splP 32 s)⟩), (0, ⟨30, 3, true, [[.val (.int .i16 0), .val (.int .i16 0), .val (.int .i16 0)]]⟩)], 3⟩) ?_ (fun hS48 => ?_)
      · skip
        refine anyS_cons T0_ok hP hm hN (by rfl) [2, 9] (by rfl) rfl ?_
        refine ⟨⟨_, rfl, rfl, ?_⟩, ?_⟩
        · skip
          refine g1 ?_
          exact anyS_weak (st' := ⟨[(17, .val (.string ((splP 32 s).getD 0 baZ))), (21, .val (.string ((splP 32 s).getD 1 baZ))), (23, .own 1), (6, .ptr 2 0 0), (5, .own 1), (4, .val (.int .i64 0)), (3, .nil), (2, .ptr 0 0 0), (0, .val (.string s))], [(2, ⟨30, 3, true, [[.val (.int .i16 0), .val (.int .i16 0), .val (.int .i16 0)]]⟩), (1, ⟨9, 1, false, strs (splP 32 s)⟩), (0, ⟨30, 3, true, [[.val (.int .i16 0), .val (.int .i16 0), .val (.int .i16 0)]]⟩)], 3⟩) (by exact weak_sl (sub_cons rfl (sub_cons rfl (sub_cons rfl (sub_cons rfl (sub_cons rfl (sub_cons rfl (sub_cons rfl (sub_cons rfl (sub_cons rfl (sub_nil))))))))))) hS31
        refine ⟨⟨_, rfl, rfl, ?_⟩, trivial⟩
        refine g1 ?_
        exact anyS_weak (st' := ⟨[(16, .ptr 1 0 0), (21, .val (.string ((splP 32 s).getD 1 baZ))), (24, .ptr 1 2 0), (6, .ptr 2 0 0), (5, .own 1), (4, .val (.int .i64 0)), (3, .nil), (2, .ptr 0 0 0), (0, .val (.string s))], [(2, ⟨30, 3, true, [[.val (.int .i16 0), .val (.int .i16 0), .val (.int .i16 0)]]⟩), (1, ⟨9, 1, false, strs (splP 32 s)⟩), (0, ⟨30, 3, true, [[.val (.int .i16 0), .val (.int .i16 0), .val (.int .i16 0)]]⟩)], 3⟩) (by exact weak_sl (sub_cons rfl (sub_cons rfl (sub_cons rfl (sub_cons rfl (sub_cons rfl (sub_cons rfl (sub_cons rfl (sub_cons rfl (sub_cons rfl (sub_nil))))))))))) hS36
      refine anyS_cut (fuel' := 8) (listed' := #[true, true, false, false, true, true, false, false, true, true, true, false, false, false, false]) (st' := ⟨[(16, .ptr 1 0 0), (20, .ptr 1 1 0), (25, .val (.string ((splP 32 s).getD 2 baZ))), (5, .own 1), (4, .val (.int .i64 0)), (3, .nil), (2, .ptr 0 0 0), (0, .val (.string s))], [(1, ⟨9, 1, false, strs (splP 32 s)⟩), (0, ⟨30, 3, true, [[.val (.int .i16 0), .val (.int .i16 0), .val (.int .i16 0)]]⟩)], 2⟩) ?_ (fun hS49 => ?_)
      · skip
        refine anyS_cons T0_ok hP hm hN (by rfl) [2, 6, 13] (by rfl) rfl ?_
        refine ⟨⟨_, rfl, rfl, ?_⟩, ?_⟩
        · skip
          refine g1 ?_
          exact anyS_weak (st' := ⟨[(17, .val (.string ((splP 32 s).getD 0 baZ))), (20, .ptr 1 1 0), (25, .val (.string ((splP 32 s).getD 2 baZ))), (5, .own 1), (4, .val (.int .i64 0)), (3, .nil), (2, .ptr 0 0 0), (0, .val (.string s))], [(1, ⟨9, 1, false, strs (splP 32 s)⟩), (0, ⟨30, 3, true, [[.val (.int .i16 0), .val (.int .i16 0), .val (.int .i16 0)]]⟩)], 2⟩) (by exact weak_sl (sub_cons rfl (sub_cons rfl (sub_cons rfl (sub_cons rfl (sub_cons rfl (sub_cons rfl (sub_cons rfl (sub_cons rfl (sub_nil)))))))))) hS32
        refine ⟨⟨_, rfl, rfl, ?_⟩, ?_⟩
        · skip
          refine g1 ?_
          exact anyS_weak (st' := ⟨[(16, .ptr 1 0 0), (21, .val (.string ((splP 32 s).getD 1 baZ))), (25, .val (.string ((splP 32 s).getD 2 baZ))), (5, .own 1), (4, .val (.int .i64 0)), (3, .nil), (2, .ptr 0 0 0), (0, .val (.string s))], [(1, ⟨9, 1, false, strs (splP 32 s)⟩), (0, ⟨30, 3, true, [[.val (.int .i16 0), .val (.int .i16 0), .val (.int .i16 0)]]⟩)], 2⟩) (by exact weak_sl (sub_cons rfl (sub_cons rfl (sub_cons rfl (sub_cons rfl (sub_cons rfl (sub_cons rfl (sub_cons rfl (sub_cons rfl (sub_nil)))))))))) hS35
        refine ⟨⟨_, rfl, rfl, ?_⟩, trivial⟩
        refine g1 ?_
        exact anyS_weak (st' := ⟨[(16, .ptr 1 0 0), (20, .ptr 1 1 0), (25, .val (.string ((splP 32 s).getD 2 baZ))), (6, .ptr 2 0 0), (5, .own 1), (4, .val (.int .i64 0)), (3, .nil), (2, .ptr 0 0 0), (0, .val (.string s))], [(2, ⟨30, 3, true, [[.val (.int .i16 0), .val (.int .i16 0), .val (.int .i16 0)]]⟩), (1, ⟨9, 1, false, strs (splP 32 s)⟩), (0, ⟨30, 3, true, [[.val (.int .i16 0), .val (.int .i16 0), .val (.int .i16 0)]]⟩)], 3⟩) (by exact weak_sl (sub_cons rfl (sub_cons rfl (sub_cons rfl (sub_cons rfl (sub_cons rfl (sub_cons rfl (sub_cons rfl (sub_cons rfl (sub_cons rfl (sub_nil))))))))))) hS37
      refine anyS_cut (fuel' := 8) (listed' := #[true, true, false, false, true, true, false, false, true, true, false, false, false, true, false]) (st' := ⟨[(16, .ptr 1 0 0), (20, .ptr 1 1 0), (24, .ptr 1 2 0), (6, .ptr 2 0 0), (5, .own 1), (4, .val (.int .i64 0)), (3, .nil), (2, .ptr 0 0 0), (0, .val (.string s))], [(2, ⟨30, 3, true, [[.val (.int .i16 0), .val (.int .i16 0), .val (.int .i16 0)]]⟩), (1, ⟨9, 1, false, strs (splP 32 s)⟩), (0, ⟨30, 3, true, [[.val (.int .i16 0), .val (.int .i16 0), .val (.int .i16 0)]]⟩)], 3⟩) ?_ (fun hS50 => ?_)
      · skip
        refine anyS_cons T0_ok hP hm hN (by rfl) [2, 6, 10] (by rfl) rfl ?_
        refine ⟨⟨_, rfl, rfl, ?_⟩, ?_⟩
        · skip
          refine g1 ?_
          exact anyS_weak (st' := ⟨[(17, .val (.string ((splP 32 s).getD 0 baZ))), (20, .ptr 1 1 0), (24, .ptr 1 2 0), (6, .ptr 2 0 0), (5, .own 1), (4, .val (.int .i64 0)), (3, .nil), (2, .ptr 0 0 0), (0, .val (.string s))], [(2, ⟨30, 3, true, [[.val (.int .i16 0), .val (.int .i16 0), .val (.int .i16 0)]]⟩), (1, ⟨9, 1, false, strs (splP 32 s)⟩), (0, ⟨30, 3, true, [[.val (.int .i16 0), .val (.int .i16 0), .val (.int .i16 0)]]⟩)], 3⟩) (by exact weak_sl (sub_cons rfl (sub_cons rfl (sub_cons rfl (sub_cons rfl (sub_cons rfl (sub_cons rfl (sub_cons rfl (sub_cons rfl (sub_cons rfl (sub_nil))))))))))) hS33
        refine ⟨⟨_, rfl, rfl, ?_⟩, ?_⟩
        · skip
          refine g1 ?_
          exact anyS_weak (st' := ⟨[(16, .ptr 1 0 0), (21, .val (.string ((splP 32 s).getD 1 baZ))), (24, .ptr 1 2 0), (6, .ptr 2 0 0), (5, .own 1), (4, .val (.int .i64 0)), (3, .nil), (2, .ptr 0 0 0), (0, .val (.string s))], [(2, ⟨30, 3, true, [[.val (.int .i16 0), .val (.int .i16 0), .val (.int .i16 0)]]⟩), (1, ⟨9, 1, false, strs (splP 32 s)⟩), (0, ⟨30, 3, true, [[.val (.int .i16 0), .val (.int .i16 0), .val (.int .i16 0)]]⟩)], 3⟩) (by exact weak_sl (sub_cons rfl (sub_cons rfl (sub_cons rfl (sub_cons rfl (sub_cons rfl (sub_cons rfl (sub_cons rfl (sub_cons rfl (sub_cons rfl (sub_nil))))))))))) hS36
        refine ⟨⟨_, rfl, rfl, ?_⟩, trivial⟩
        refine g1 ?_
        exact anyS_weak (st' := ⟨[(16, .ptr 1 0 0), (20, .ptr 1 1 0), (25, .val (.string ((splP 32 s).getD 2 baZ))), (6, .ptr 2 0 0), (5, .own 1), (4, .val (.int .i64 0)), (3, .nil), (2, .ptr 0 0 0), (0, .val (.string s))], [(2, ⟨30, 3, true, [[.val (.int .i16 0), .val (.int .i16 0), .val (.int .i16 0)]]⟩), (1, ⟨9, 1, false, strs (splP 32 s)⟩), (0, ⟨30, 3, true, [[.val (.int .i16 0), .val (.int .i16 0), .val (.int .i16 0)]]⟩)], 3⟩) (by exact weak_sl (sub_cons rfl (sub_cons rfl (sub_cons rfl (sub_cons rfl (sub_cons rfl (sub_cons rfl (sub_cons rfl (sub_cons rfl (sub_cons rfl (sub_nil))))))))))) hS37
      refine anyS_cut (fuel' := 8) (listed' := #[true, true, false, false, true, false, false, false, true, true, true, false, false, true, false]) (st' := ⟨[(16, .ptr 1 0 0), (19, .own 1), (25, .val (.string ((splP 32 s).getD 2 baZ))), (6, .ptr 2 0 0), (5, .own 1), (4, .val (.int .i64 0)), (3, .nil), (2, .ptr 0 0 0), (0, .val (.string s))], [(2, ⟨30, 3, true, [[.val (.int .i16 0), .val (.int .i16 0), .val (.int .i16 0)]]⟩), (1, ⟨9, 1, false, strs (splP 32 s)⟩), (0, ⟨30, 3, true, [[.val (.int .i16 0), .val (.int .i16 0), .val (.int .i16 0)]]⟩)], 3⟩) ?_ (fun hS51 => ?_)
      · skip
        refine anyS_cons T0_ok hP hm hN (by rfl) [2, 5] (by rfl) rfl ?_
        refine ⟨⟨_, rfl, rfl, ?_⟩, ?_⟩
        · skip
          refine g1 ?_
          exact anyS_weak (st' := ⟨[(17, .val (.string ((splP 32 s).getD 0 baZ))), (19, .own 1), (25, .val (.string ((splP 32 s).getD 2 baZ))), (6, .ptr 2 0 0), (5, .own 1), (4, .val (.int .i64 0)), (3, .nil), (2, .ptr 0 0 0), (0, .val (.string s))], [(2, ⟨30, 3, true, [[.val (.int .i16 0), .val (.int .i16 0), .val (.int .i16 0)]]⟩), (1, ⟨9, 1, false, strs (splP 32 s)⟩), (0, ⟨30, 3, true, [[.val (.int .i16 0), .val (.int .i16 0), .val (.int .i16 0)]]⟩)], 3⟩) (by exact weak_sl (sub_cons rfl (sub_cons rfl (sub_cons rfl (sub_cons rfl (sub_cons rfl (sub_cons rfl (sub_cons rfl (sub_cons rfl (sub_cons rfl (sub_nil))))))))))) hS34
        refine ⟨⟨_, rfl, rfl, ?_⟩, trivial⟩
        refine g1 ?_
        exact anyS_weak (st' := ⟨[(16, .ptr 1 0 0), (20, .ptr 1 1 0), (25, .val (.string ((splP 32 s).getD 2 baZ))), (6, .ptr 2 0 0), (5, .own 1), (4, .val (.int .i64 0)), (3, .nil), (2, .ptr 0 0 0), (0, .val (.string s))], [(2, ⟨30, 3, true, [[.val (.int .i16 0), .val (.int .i16 0), .val (.int .i16 0)]]⟩), (1, ⟨9, 1, false, strs (splP 32 s)⟩), (0, ⟨30, 3, true, [[.val (.int .i16 0), .val (.int .i16 0), .val (.int .i16 0)]]⟩)], 3⟩) (by exact weak_sl (sub_cons rfl (sub_cons rfl (sub_cons rfl (sub_cons rfl (sub_cons rfl (sub_cons rfl (sub_cons rfl (sub_cons rfl (sub_cons rfl (sub_nil))))))))))) hS37
      refine anyS_cut (fuel' := 8) (listed' := #[true, false, false, false, true, true, true, false, true, true, true, false, false, false, false]) (st' := ⟨[(15, .own 1), (21, .val (.string ((splP 32 s).getD 1 baZ))), (25, .val (.string ((splP 32 s).getD 2 baZ))), (5, .own 1), (4, .val (.int .i64 0)), (3, .nil), (2, .ptr 0 0 0), (0, .val (.string s))], [(1, ⟨9, 1, false, strs (splP 32 s)⟩), (0, ⟨30, 3, true, [[.val (.int .i16 0), .val (.int .i16 0), .val (.int .i16 0)]]⟩)], 2⟩) ?_ (fun hS52 => ?_)
      · skip
        refine anyS_cons T0_ok hP hm hN (by rfl) [1, 13] (by rfl) rfl ?_
        refine ⟨⟨_, rfl, rfl, ?_⟩, ?_⟩
        · skip
          refine g1 ?_
          exact anyS_weak (st' := ⟨[(16, .ptr 1 0 0), (21, .val (.string ((splP 32 s).getD 1 baZ))), (25, .val (.string ((splP 32 s).getD 2 baZ))), (5, .own 1), (4, .val (.int .i64 0)), (3, .nil), (2, .ptr 0 0 0), (0, .val (.string s))], [(1, ⟨9, 1, false, strs (splP 32 s)⟩), (0, ⟨30, 3, true, [[.val (.int .i16 0), .val (.int .i16 0), .val (.int .i16 0)]]⟩)], 2⟩) (by exact weak_sl (sub_cons rfl (sub_cons rfl (sub_cons rfl (sub_cons rfl (sub_cons rfl (sub_cons rfl (sub_cons rfl (sub_cons rfl (sub_nil)))))))))) hS35
        refine ⟨⟨_, rfl, rfl, ?_⟩, trivial⟩
        refine g1 ?_
        exact anyS_weak (st' := ⟨[(15, .own 1), (21, .val (.string ((splP 32 s).getD 1 baZ))), (25, .val (.string ((splP 32 s).getD 2 baZ))), (6, .ptr 2 0 0), (5, .own 1), (4, .val (.int .i64 0)), (3, .nil), (2, .ptr 0 0 0), (0, .val (.string s))], [(2, ⟨30, 3, true, [[.val (.int .i16 0), .val (.int .i16 0), .val (.int .i16 0)]]⟩), (1, ⟨9, 1, false, strs (splP 32 s)⟩), (0, ⟨30, 3, true, [[.val (.int .i16 0), .val (.int .i16 0), .val (.int .i16 0)]]⟩)], 3⟩) (by exact weak_sl (sub_cons rfl (sub_cons rfl (sub_cons rfl (sub_cons rfl (sub_cons rfl (sub_cons rfl (sub_cons rfl (sub_cons rfl (sub_cons rfl (sub_nil))))))))))) hS38
      refine anyS_cut (fuel' := 8) (listed' := #[true, false, false, false, true, true, true, false, true, true, false, false, false, true, false]) (st' := ⟨[(15, .own 1), (21, .val (.string ((splP 32 s).getD 1 baZ))), (24, .ptr 1 2 0), (6, .ptr 2 0 0), (5, .own 1), (4, .val (.int .i64 0)), (3, .nil), (2, .ptr 0 0 0), (0, .val (.string s))], [(2, ⟨30, 3, true, [[.val (.int .i16 0), .val (.int .i16 0), .val (.int .i16 0)]]⟩), (1, ⟨9, 1, false, strs (splP 32 s)⟩), (0, ⟨30, 3, true, [[.val (.int .i16 0), .val (.int .i16 0), .val (.int .i16 0)]]⟩)], 3⟩) ?_ (fun hS53 => ?_)
      · skip
        refine anyS_cons T0_ok hP hm hN (by rfl) [1, 10] (by rfl) rfl ?_
        refine ⟨⟨_, rfl, rfl, ?_⟩, ?_⟩
        · skip
          refine g1 ?_
          exact anyS_weak (st' := ⟨[(16, .ptr 1 0 0), (21, .val (.string ((splP 32 s).getD 1 baZ))), (24, .ptr 1 2 0), (6, .ptr 2 0 0), (5, .own 1), (4, .val (.int .i64 0)), (3, .nil), (2, .ptr 0 0 0), (0, .val (.string s))], [(2, ⟨30, 3, true, [[.val (.int .i16 0), .val (.int .i16 0), .val (.int .i16 0)]]⟩), (1, ⟨9, 1, false, strs (splP 32 s)⟩), (0, ⟨30, 3, true, [[.val (.int .i16 0), .val (.int .i16 0), .val (.int .i16 0)]]⟩)], 3⟩) (by exact weak_sl (sub_cons rfl (sub_cons rfl (sub_cons rfl (sub_cons rfl (sub_cons rfl (sub_cons rfl (sub_cons rfl (sub_cons rfl (sub_cons rfl (sub_nil))))))))))) hS36
        refine ⟨⟨_, rfl, rfl, ?_⟩, trivial⟩
        refine g1 ?_
        exact anyS_weak (st' := ⟨[(15, .own 1), (21, .val (.string ((splP 32 s).getD 1 baZ))), (25, .val (.string ((splP 32 s).getD 2 baZ))), (6, .ptr 2 0 0), (5, .own 1), (4, .val (.int .i64 0)), (3, .nil), (2, .ptr 0 0 0), (0, .val (.string s))], [(2, ⟨30, 3, true, [[.val (.int .i16 0), .val (.int .i16 0), .val (.int .i16 0)]]⟩), (1, ⟨9, 1, false, strs (splP 32 s)⟩), (0, ⟨30, 3, true, [[.val (.int .i16 0), .val (.int .i16 0), .val (.int .i16 0)]]⟩)], 3⟩) (by exact weak_sl (sub_cons rfl (sub_cons rfl (sub_cons rfl (sub_cons rfl (sub_cons rfl (sub_cons rfl (sub_cons rfl (sub_cons rfl (sub_cons rfl (sub_nil))))))))))) hS38
      refine anyS_cut (fuel' := 8) (listed' := #[true, false, false, false, true, true, false, false, true, true, true, false, false, true, false]) (st' := ⟨[(15, .own 1), (20, .ptr 1 1 0), (25, .val (.string ((splP 32 s).getD 2 baZ))), (6, .ptr 2 0 0), (5, .own 1), (4, .val (.int .i64 0)), (3, .nil), (2, .ptr 0 0 0), (0, .val (.string s))], [(2, ⟨30, 3, true, [[.val (.int .i16 0), .val (.int .i16 0), .val (.int .i16 0)]]⟩), (1, ⟨9, 1, false, strs (splP 32 s)⟩), (0, ⟨30, 3, true, [[.val (.int .i16 0), .val (.int .i16 0), .val (.int .i16 0)]]⟩)], 3⟩) ?_ (fun hS54 => ?_)
      · skip
        refine anyS_cons T0_ok hP hm hN (by rfl) [1, 6] (by rfl) rfl ?_
        refine ⟨⟨_, rfl, rfl, ?_⟩, ?_⟩
        · skip
          refine g1 ?_
          exact anyS_weak (st' := ⟨[(16, .ptr 1 0 0), (20, .ptr 1 1 0), (25, .val (.string ((splP 32 s).getD 2 baZ))), (6, .ptr 2 0 0), (5, .own 1), (4, .val (.int .i64 0)), (3, .nil), (2, .ptr 0 0 0), (0, .val (.string s))], [(2, ⟨30, 3, true, [[.val (.int .i16 0), .val (.int .i16 0), .val (.int .i16 0)]]⟩), (1, ⟨9, 1, false, strs (splP 32 s)⟩), (0, ⟨30, 3, true, [[.val (.int .i16 0), .val (.int .i16 0), .val (.int .i16 0)]]⟩)], 3⟩) (by exact weak_sl (sub_cons rfl (sub_cons rfl (sub_cons rfl (sub_cons rfl (sub_cons rfl (sub_cons rfl (sub_cons rfl (sub_cons rfl (sub_cons rfl (sub_nil))))))))))) hS37
        refine ⟨⟨_, rfl, rfl, ?_⟩, trivial⟩
        refine g1 ?_
        exact anyS_weak (st' := ⟨[(15, .own 1), (21, .val (.string ((splP 32 s).getD 1 baZ))), (25, .val (.string ((splP 32 s).getD 2 baZ))), (6, .ptr 2 0 0), (5, .own 1), (4, .val (.int .i64 0)), (3, .nil), (2, .ptr 0 0 0), (0, .val (.string s))], [(2, ⟨30, 3, true, [[.val (.int .i16 0), .val (.int .i16 0), .val (.int .i16 0)]]⟩), (1, ⟨9, 1, false, strs (splP 32 s)⟩), (0, ⟨30, 3, true, [[.val (.int .i16 0), .val (.int .i16 0), .val (.int .i16 0)]]⟩)], 3⟩) (by exact weak_sl (sub_cons rfl (sub_cons rfl (sub_cons rfl (sub_cons rfl (sub_cons rfl (sub_cons rfl (sub_cons rfl (sub_cons rfl (sub_cons rfl (sub_nil))))))))))) hS38
      refine anyS_cut (fuel' := 9) (listed' := #[true, true, true, true, true, false, false, false, true, false, false, false, false, false, false]) (st' := ⟨[(18, .val (.int .i16 (shW ((splP 32 s).getD 0 baZ)))), (19, .own 1), (23, .own 1), (5, .own 1), (4, .val (.int .i64 0)), (3, .nil), (2, .ptr 0 0 0), (0, .val (.string s))], [(1, ⟨9, 1, false, strs (splP 32 s)⟩), (0, ⟨30, 3, true, [[.val (.int .i16 0), .val (.int .i16 0), .val (.int .i16 0)]]⟩)], 2⟩) ?_ (fun hS55 => ?_)
      · skip
        refine anyS_cons T0_ok hP hm hN (by rfl) [5, 9, 13] (by rfl) rfl ?_
        refine ⟨⟨_, rfl, rfl, ?_⟩, ?_⟩
        · skip
          refine g1 ?_
          exact anyS_weak (st' := ⟨[(18, .val (.int .i16 (shW ((splP 32 s).getD 0 baZ)))), (20, .ptr 1 1 0), (23, .own 1), (5, .own 1), (4, .val (.int .i64 0)), (3, .nil), (2, .ptr 0 0 0), (0, .val (.string s))], [(1, ⟨9, 1, false, strs (splP 32 s)⟩), (0, ⟨30, 3, true, [[.val (.int .i16 0), .val (.int .i16 0), .val (.int .i16 0)]]⟩)], 2⟩) (by exact weak_sl (sub_cons rfl (sub_cons rfl (sub_cons rfl (sub_cons rfl (sub_cons rfl (sub_cons rfl (sub_cons rfl (sub_cons rfl (sub_nil)))))))))) hS39
        refine ⟨⟨_, rfl, rfl, ?_⟩, ?_⟩
        · skip
          refine g1 ?_
          exact anyS_weak (st' := ⟨[(18, .val (.int .i16 (shW ((splP 32 s).getD 0 baZ)))), (19, .own 1), (24, .ptr 1 2 0), (5, .own 1), (4, .val (.int .i64 0)), (3, .nil), (2, .ptr 0 0 0), (0, .val (.string s))], [(1, ⟨9, 1, false, strs (splP 32 s)⟩), (0, ⟨30, 3, true, [[.val (.int .i16 0), .val (.int .i16 0), .val (.int .i16 0)]]⟩)], 2⟩) (by exact weak_sl (sub_cons rfl (sub_cons rfl (sub_cons rfl (sub_cons rfl (sub_cons rfl (sub_cons rfl (sub_cons rfl (sub_cons rfl (sub_nil)))))))))) hS40
        refine ⟨⟨_, rfl, rfl, ?_⟩, trivial⟩
        refine g1 ?_
        exact anyS_weak (st' := ⟨[(18, .val (.int .i16 (shW ((splP 32 s).getD 0 baZ)))), (19, .own 1), (23, .own 1), (6, .ptr 2 0 0), (5, .own 1), (4, .val (.int .i64 0)), (3, .nil), (2, .ptr 0 0 0), (0, .val (.string s))], [(2, ⟨30, 3, true, [[.val (.int .i16 0), .val (.int .i16 0), .val (.int .i16 0)]]⟩), (1, ⟨9, 1, false, strs (splP 32 s)⟩), (0, ⟨30, 3, true, [[.val (.int .i16 0), .val (.int .i16 0), .val (.int .i16 0)]]⟩)], 3⟩) (by exact weak_sl (sub_cons rfl (sub_cons rfl (sub_cons rfl (sub_cons rfl (sub_cons rfl (sub_cons rfl (sub_cons rfl (sub_cons rfl (sub_cons rfl (sub_nil))))))))))) hS41
      refine anyS_cut (fuel' := 9) (listed' := #[true, true, true, false, true, true, false, false, true, false, false, false, false, false, false]) (st' := ⟨[(17, .val (.string ((splP 32 s).getD 0 baZ))), (20, .ptr 1 1 0), (23, .own 1), (5, .own 1), (4, .val (.int .i64 0)), (3, .nil), (2, .ptr 0 0 0), (0, .val (.string s))], [(1, ⟨9, 1, false, strs (splP 32 s)⟩), (0, ⟨30, 3, true, [[.val (.int .i16 0), .val (.int .i16 0), .val (.int .i16 0)]]⟩)], 2⟩) ?_ (fun hS56 => ?_)
      · skip
        refine anyS_cons T0_ok hP hm hN (by rfl) [3, 6, 9, 13] (by rfl) rfl ?_
        refine ⟨⟨_, rfl, rfl, ?_⟩, ?_⟩
        · skip
          refine gc1 ?_ (call1 ok_I_short ((splP 32 s).getD 0 baZ) [] (hpre := by (try dsimp only); omega))
          exact anyS_weak (st' := ⟨[(18, .val (.int .i16 (shW ((splP 32 s).getD 0 baZ)))), (20, .ptr 1 1 0), (23, .own 1), (5, .own 1), (4, .val (.int .i64 0)), (3, .nil), (2, .ptr 0 0 0), (0, .val (.string s))], [(1, ⟨9, 1, false, strs (splP 32 s)⟩), (0, ⟨30, 3, true, [[.val (.int .i16 0), .val (.int .i16 0), .val (.int .i16 0)]]⟩)], 2⟩) (by exact weak_sl (sub_cons rfl (sub_cons rfl (sub_cons rfl (sub_cons rfl (sub_cons rfl (sub_cons rfl (sub_cons rfl (sub_cons rfl (sub_nil)))))))))) hS39
        refine ⟨⟨_, rfl, rfl, ?_⟩, ?_⟩
        · skip
          refine g1 ?_
          exact anyS_weak (st' := ⟨[(17, .val (.string ((splP 32 s).getD 0 baZ))), (21, .val (.string ((splP 32 s).getD 1 baZ))), (23, .own 1), (5, .own 1), (4, .val (.int .i64 0)), (3, .nil), (2, .ptr 0 0 0), (0, .val (.string s))], [(1, ⟨9, 1, false, strs (splP 32 s)⟩), (0, ⟨30, 3, true, [[.val (.int .i16 0), .val (.int .i16 0), .val (.int .i16 0)]]⟩)], 2⟩) (by exact weak_sl (sub_cons rfl (sub_cons rfl (sub_cons rfl (sub_cons rfl (sub_cons rfl (sub_cons rfl (sub_cons rfl (sub_cons rfl (sub_nil)))))))))) hS42
        refine ⟨⟨_, rfl, rfl, ?_⟩, ?_⟩
        · skip
          refine g1 ?_
          exact anyS_weak (st' := ⟨[(17, .val (.string ((splP 32 s).getD 0 baZ))), (20, .ptr 1 1 0), (24, .ptr 1 2 0), (5, .own 1), (4, .val (.int .i64 0)), (3, .nil), (2, .ptr 0 0 0), (0, .val (.string s))], [(1, ⟨9, 1, false, strs (splP 32 s)⟩), (0, ⟨30, 3, true, [[.val (.int .i16 0), .val (.int .i16 0), .val (.int .i16 0)]]⟩)], 2⟩) (by exact weak_sl (sub_cons rfl (sub_cons rfl (sub_cons rfl (sub_cons rfl (sub_cons rfl (sub_cons rfl (sub_cons rfl (sub_cons rfl (sub_nil)))))))))) hS43
        refine ⟨⟨_, rfl, rfl, ?_⟩, trivial⟩
        refine g1 ?_
        exact anyS_weak (st' := ⟨[(17, .val (.string ((splP 32 s).getD 0 baZ))), (20, .ptr 1 1 0), (23, .own 1), (6, .ptr 2 0 0), (5, .own 1), (4, .val (.int .i64 0)), (3, .nil), (2, .ptr 0 0 0), (0, .val (.string s))], [(2, ⟨30, 3, true, [[.val (.int .i16 0), .val (.int .i16 0), .val (.int .i16 0)]]⟩), (1, ⟨9, 1, false, strs (splP 32 s)⟩), (0, ⟨30, 3, true, [[.val (.int .i16 0), .val (.int .i16 0), .val (.int .i16 0)]]⟩)], 3⟩) (by exact weak_sl (sub_cons rfl (sub_cons rfl (sub_cons rfl (sub_cons rfl (sub_cons rfl (sub_cons rfl (sub_cons rfl (sub_cons rfl (sub_cons rfl (sub_nil))))))))))) hS44
      refine anyS_cut (fuel' := 9) (listed' := #[true, true, true, false, true, false, false, false, true, true, false, false, false, false, false]) (st' := ⟨[(17, .val (.string ((splP 32 s).getD 0 baZ))), (19, .own 1), (24, .ptr 1 2 0), (5, .own 1), (4, .val (.int .i64 0)), (3, .nil), (2, .ptr 0 0 0), (0, .val (.string s))], [(1, ⟨9, 1, false, strs (splP 32 s)⟩), (0, ⟨30, 3, true, [[.val (.int .i16 0), .val (.int .i16 0), .val (.int .i16 0)]]⟩)], 2⟩) ?_ (fun hS57 => ?_)
      · skip
        refine anyS_cons T0_ok hP hm hN (by rfl) [3, 5, 10, 13] (by rfl) rfl ?_
        refine ⟨⟨_, rfl, rfl, ?_⟩, ?_⟩
        · skip
          refine gc1 ?_ (call1 ok_I_short ((splP 32 s).getD 0 baZ) [] (hpre := by (try dsimp only); omega))
          exact anyS_weak (st' := ⟨[(18, .val (.int .i16 (shW ((splP 32 s).getD 0 baZ)))), (19, .own 1), (24, .ptr 1 2 0), (5, .own 1), (4, .val (.int .i64 0)), (3, .nil), (2, .ptr 0 0 0), (0, .val (.string s))], [(1, ⟨9, 1, false, strs (splP 32 s)⟩), (0, ⟨30, 3, true, [[.val (.int .i16 0), .val (.int .i16 0), .val (.int .i16 0)]]⟩)], 2⟩) (by exact weak_sl (sub_cons rfl (sub_cons rfl (sub_cons rfl (sub_cons rfl (sub_cons rfl (sub_cons rfl (sub_cons rfl (sub_cons rfl (sub_nil)))))))))) hS40
        refine ⟨⟨_, rfl, rfl, ?_⟩, ?_⟩
        · skip
          refine g1 ?_
          exact anyS_weak (st' := ⟨[(17, .val (.string ((splP 32 s).getD 0 baZ))), (20, .ptr 1 1 0), (24, .ptr 1 2 0), (5, .own 1), (4, .val (.int .i64 0)), (3, .nil), (2, .ptr 0 0 0), (0, .val (.string s))], [(1, ⟨9, 1, false, strs (splP 32 s)⟩), (0, ⟨30, 3, true, [[.val (.int .i16 0), .val (.int .i16 0), .val (.int .i16 0)]]⟩)], 2⟩) (by exact weak_sl (sub_cons rfl (sub_cons rfl (sub_cons rfl (sub_cons rfl (sub_cons rfl (sub_cons rfl (sub_cons rfl (sub_cons rfl (sub_nil)))))))))) hS43
        refine ⟨⟨_, rfl, rfl, ?_⟩, ?_⟩
        · skip
          refine g1 ?_
          exact anyS_weak (st' := ⟨[(17, .val (.string ((splP 32 s).getD 0 baZ))), (19, .own 1), (25, .val (.string ((splP 32 s).getD 2 baZ))), (5, .own 1), (4, .val (.int .i64 0)), (3, .nil), (2, .ptr 0 0 0), (0, .val (.string s))], [(1, ⟨9, 1, false, strs (splP 32 s)⟩), (0, ⟨30, 3, true, [[.val (.int .i16 0), .val (.int .i16 0), .val (.int .i16 0)]]⟩)], 2⟩) (by exact weak_sl (sub_cons rfl (sub_cons rfl (sub_cons rfl (sub_cons rfl (sub_cons rfl (sub_cons rfl (sub_cons rfl (sub_cons rfl (sub_nil)))))))))) hS45
        refine ⟨⟨_, rfl, rfl, ?_⟩, trivial⟩
        refine g1 ?_
        exact anyS_weak (st' := ⟨[(17, .val (.string ((splP 32 s).getD 0 baZ))), (19, .own 1), (24, .ptr 1 2 0), (6, .ptr 2 0 0), (5, .own 1), (4, .val (.int .i64 0)), (3, .nil), (2, .ptr 0 0 0), (0, .val (.string s))], [(2, ⟨30, 3, true, [[.val (.int .i16 0), .val (.int .i16 0), .val (.int .i16 0)]]⟩), (1, ⟨9, 1, false, strs (splP 32 s)⟩), (0, ⟨30, 3, true, [[.val (.int .i16 0), .val (.int .i16 0), .val (.int .i16 0)]]⟩)], 3⟩) (by exact weak_sl (sub_cons rfl (sub_cons rfl (sub_cons rfl (sub_cons rfl (sub_cons rfl (sub_cons rfl (sub_cons rfl (sub_cons rfl (sub_cons rfl (sub_nil))))))))))) hS46
      refine anyS_cut (fuel' := 9) (listed' := #[true, true, true, false, true, false, false, false, true, false, false, false, false, true, false]) (st' := ⟨[(17, .val (.string ((splP 32 s).getD 0 baZ))), (19, .own 1), (23, .own 1), (6, .ptr 2 0 0), (5, .own 1), (4, .val (.int .i64 0)), (3, .nil), (2, .ptr 0 0 0), (0, .val (.string s))], [(2, ⟨30, 3, true, [[.val (.int .i16 0), .val (.int .i16 0), .val (.int .i16 0)]]⟩), (1, ⟨9, 1, false, strs (splP 32 s)⟩), (0, ⟨30, 3, true, [[.val (.int .i16 0), .val (.int .i16 0), .val (.int .i16 0)]]⟩)], 3⟩) ?_ (fun hS58 => ?_)
      · skip
        refine anyS_cons T0_ok hP hm hN (by rfl) [3, 5, 9] (by rfl) rfl ?_
        refine ⟨⟨_, rfl, rfl, ?_⟩, ?_⟩
        · skip
          refine gc1 ?_ (call1 ok_I_short ((splP 32 s).getD 0 baZ) [] (hpre := by (try dsimp only); omega))
          exact anyS_weak (st' := ⟨[(18, .val (.int .i16 (shW ((splP 32 s).getD 0 baZ)))), (19, .own 1), (23, .own 1), (6, .ptr 2 0 0), (5, .own 1), (4, .val (.int .i64 0)), (3, .nil), (2, .ptr 0 0 0), (0, .val (.string s))], [(2, ⟨30, 3, true, [[.val (.int .i16 0), .val (.int .i16 0), .val (.int .i16 0)]]⟩), (1, ⟨9, 1, false, strs (splP 32 s)⟩), (0, ⟨30, 3, true, [[.val (.int .i16 0), .val (.int .i16 0), .val (.int .i16 0)]]⟩)], 3⟩) (by exact weak_sl (sub_cons rfl (sub_cons rfl (sub_cons rfl (sub_cons rfl (sub_cons rfl (sub_cons rfl (sub_cons rfl (sub_cons rfl (sub_cons rfl (sub_nil))))))))))) hS41
        refine ⟨⟨_, rfl, rfl, ?_⟩, ?_⟩
        · skip
          refine g1 ?_
          exact anyS_weak (st' := ⟨[(17, .val (.string ((splP 32 s).getD 0 baZ))), (20, .ptr 1 1 0), (23, .own 1), (6, .ptr 2 0 0), (5, .own 1), (4, .val (.int .i64 0)), (3, .nil), (2, .ptr 0 0 0), (0, .val (.string s))], [(2, ⟨30, 3, true, [[.val (.int .i16 0), .val (.int .i16 0), .val (.int .i16 0)]]⟩), (1, ⟨9, 1, false, strs (splP 32 s)⟩), (0, ⟨30, 3, true, [[.val (.int .i16 0), .val (.int .i16 0), .val (.int .i16 0)]]⟩)], 3⟩) (by exact weak_sl (sub_cons rfl (sub_cons rfl (sub_cons rfl (sub_cons rfl (sub_cons rfl (sub_cons rfl (sub_cons rfl (sub_cons rfl (sub_cons rfl (sub_nil))))))))))) hS44
        refine ⟨⟨_, rfl, rfl, ?_⟩, trivial⟩
        refine g1 ?_
        exact anyS_weak (st' := ⟨[(17, .val (.string ((splP 32 s).getD 0 baZ))), (19, .own 1), (24, .ptr 1 2 0), (6, .ptr 2 0 0), (5, .own 1), (4, .val (.int .i64 0)), (3, .nil), (2, .ptr 0 0 0), (0, .val (.string s))], [(2, ⟨30, 3, true, [[.val (.int .i16 0), .val (.int .i16 0), .val (.int .i16 0)]]⟩), (1, ⟨9, 1, false, strs (splP 32 s)⟩), (0, ⟨30, 3, true, [[.val (.int .i16 0), .val (.int .i16 0), .val (.int .i16 0)]]⟩)], 3⟩) (by exact weak_sl (sub_cons rfl (sub_cons rfl (sub_cons rfl (sub_cons rfl (sub_cons rfl (sub_cons rfl (sub_cons rfl (sub_cons rfl (sub_cons rfl (sub_nil))))))))))) hS46
      refine anyS_cut (fuel' := 9) (listed' := #[true, true, false, false, true, true, true, false, true, false, false, false, false, false, false]) (st' := ⟨[(16, .ptr 1 0 0), (21, .val (.string ((splP 32 s).getD 1 baZ))), (23, .own 1), (5, .own 1), (4, .val (.int .i64 0)), (3, .nil), (2, .ptr 0 0 0), (0, .val (.string s))], [(1, ⟨9, 1, false, strs (splP 32 s)⟩), (0, ⟨30, 3, true, [[.val (.int .i16 0), .val (.int .i16 0), .val (.int .i16 0)]]⟩)], 2⟩) ?_ (fun hS59 => ?_)
      · skip
        refine anyS_cons T0_ok hP hm hN (by rfl) [2, 9, 13] (by rfl) rfl ?_
        refine ⟨⟨_, rfl, rfl, ?_⟩, ?_⟩
        · skip
          refine g1 ?_
          exact anyS_weak (st' := ⟨[(17, .val (.string ((splP 32 s).getD 0 baZ))), (21, .val (.string ((splP 32 s).getD 1 baZ))), (23, .own 1), (5, .own 1), (4, .val (.int .i64 0)), (3, .nil), (2, .ptr 0 0 0), (0, .val (.string s))], [(1, ⟨9, 1, false, strs (splP 32 s)⟩), (0, ⟨30, 3, true, [[.val (.int .i16 0), .val (.int .i16 0), .val (.int .i16 0)]]⟩)], 2⟩) (by exact weak_sl (sub_cons rfl (sub_cons rfl (sub_cons rfl (sub_cons rfl (sub_cons rfl (sub_cons rfl (sub_cons rfl (sub_cons rfl (sub_nil)))))))))) hS42
        refine ⟨⟨_, rfl, rfl, ?_⟩, ?_⟩
        · skip
          refine g1 ?_
          exact anyS_weak (st' := ⟨[(16, .ptr 1 0 0), (21, .val (.string ((splP 32 s).getD 1 baZ))), (24, .ptr 1 2 0), (5, .own 1), (4, .val (.int .i64 0)), (3, .nil), (2, .ptr 0 0 0), (0, .val (.string s))], [(1, ⟨9, 1, false, strs (splP 32 s)⟩), (0, ⟨30, 3, true, [[.val (.int .i16 0), .val (.int .i16 0), .val (.int .i16 0)]]⟩)], 2⟩) (by exact weak_sl (sub_cons rfl (sub_cons rfl (sub_cons rfl (sub_cons rfl (sub_cons rfl (sub_cons rfl (sub_cons rfl (sub_cons rfl (sub_nil)))))))))) hS47
        refine ⟨⟨_, rfl, rfl, ?_⟩, trivial⟩
        refine g1 ?_
        exact anyS_weak (st' := ⟨[(16, .ptr 1 0 0), (21, .val (.string ((splP 32 s).getD 1 baZ))), (23, .own 1), (6, .ptr 2 0 0), (5, .own 1), (4, .val (.int .i64 0)), (3, .nil), (2, .ptr 0 0 0), (0, .val (.string s))], [(2, ⟨30, 3, true, [[.val (.int .i16 0), .val (.int .i16 0), .val (.int .i16 0)]]⟩), (1, ⟨9, 1, false, strs (splP 32 s)⟩), (0, ⟨30, 3, true, [[.val (.int .i16 0), .val (.int .i16 0), .val (.int .i16 0)]]⟩)], 3⟩) (by exact weak_sl (sub_cons rfl (sub_cons rfl (sub_cons rfl (sub_cons rfl (sub_cons rfl (sub_cons rfl (sub_cons rfl (sub_cons rfl (sub_cons rfl (sub_nil))))))))))) hS48
      refine anyS_cut (fuel' := 9) (listed' := #[true, true, false, false, true, true, false, false, true, true, false, false, false, false, false]) (st' := ⟨[(16, .ptr 1 0 0), (20, .ptr 1 1 0), (24, .ptr 1 2 0), (5, .own 1), (4, .val (.int .i64 0)), (3, .nil), (2, .ptr 0 0 0), (0, .val (.string s))], [(1, ⟨9, 1, false, strs (splP 32 s)⟩), (0, ⟨30, 3, true, [[.val (.int .i16 0), .val (.int .i16 0), .val (.int .i16 0)]]⟩)], 2⟩) ?_ (fun hS60 => ?_)
      · skip
        refine anyS_cons T0_ok hP hm hN (by rfl) [2, 6, 10, 13] (by rfl) rfl ?_
        refine ⟨⟨_, rfl, rfl, ?_⟩, ?_⟩
        · skip
          refine g1 ?_
          exact anyS_weak (st' := ⟨[(17, .val (.string ((splP 32 s).getD 0 baZ))), (20, .ptr 1 1 0), (24, .ptr 1 2 0), (5, .own 1), (4, .val (.int .i64 0)), (3, .nil), (2, .ptr 0 0 0), (0, .val (.string s))], [(1, ⟨9, 1, false, strs (splP 32 s)⟩), (0, ⟨30, 3, true, [[.val (.int .i16 0), .val (.int .i16 0), .val (.int .i16 0)]]⟩)], 2⟩) (by exact weak_sl (sub_cons rfl (sub_cons rfl (sub_cons rfl (sub_cons rfl (sub_cons rfl (sub_cons rfl (sub_cons rfl (sub_cons rfl (sub_nil)))))))))) hS43
        refine ⟨⟨_, rfl, rfl, ?_⟩, ?_⟩
        · skip
          refine g1 ?_
          exact anyS_weak (st' := ⟨[(16, .ptr 1 0 0), (21, .val (.string ((splP 32 s).getD 1 baZ))), (24, .ptr 1 2 0), (5, .own 1), (4, .val (.int .i64 0)), (3, .nil), (2, .ptr 0 0 0), (0, .val (.string s))], [(1, ⟨9, 1, false, strs (splP 32 s)⟩), (0, ⟨30, 3, true, [[.val (.int .i16 0), .val (.int .i16 0), .val (.int .i16 0)]]⟩)], 2⟩) (by exact weak_sl (sub_cons rfl (sub_cons rfl (sub_cons rfl (sub_cons rfl (sub_cons rfl (sub_cons rfl (sub_cons rfl (sub_cons rfl (sub_nil)))))))))) hS47
        refine ⟨⟨_, rfl, rfl, ?_⟩, ?_⟩
        · skip
          refine g1 ?_
          exact anyS_weak (st' := ⟨[(16, .ptr 1 0 0), (20, .ptr 1 1 0), (25, .val (.string ((splP 32 s).getD 2 baZ))), (5, .own 1), (4, .val (.int .i64 0)), (3, .nil), (2, .ptr 0 0 0), (0, .val (.string s))], [(1, ⟨9, 1, false, strs (splP 32 s)⟩), (0, ⟨30, 3, true, [[.val (.int .i16 0), .val (.int .i16 0), .val (.int .i16 0)]]⟩)], 2⟩) (by exact weak_sl (sub_cons rfl (sub_cons rfl (sub_cons rfl (sub_cons rfl (sub_cons rfl (sub_cons rfl (sub_cons rfl (sub_cons rfl (sub_nil)))))))))) hS49
        refine ⟨⟨_, rfl, rfl, ?_⟩, trivial⟩
        refine g1 ?_
        exact anyS_weak (st' := ⟨[(16, .ptr 1 0 0), (20, .ptr 1 1 0), (24, .ptr 1 2 0), (6, .ptr 2 0 0), (5, .own 1), (4, .val (.int .i64 0)), (3, .nil), (2, .ptr 0 0 0), (0, .val (.string s))], [(2, ⟨30, 3, true, [[.val (.int .i16 0), .val (.int .i16 0), .val (.int .i16 0)]]⟩), (1, ⟨9, 1, false, strs (splP 32 s)⟩), (0, ⟨30, 3, true, [[.val (.int .i16 0), .val (.int .i16 0), .val (.int .i16 0)]]⟩)], 3⟩) (by exact weak_sl (sub_cons rfl (sub_cons rfl (sub_cons rfl (sub_cons rfl (sub_cons rfl (sub_cons rfl (sub_cons rfl (sub_cons rfl (sub_cons rfl (sub_nil))))))))))) hS50
      refine anyS_cut (fuel' := 9) (listed' := #[true, true, false, false, true, true, false, false, true, false, false, false, false, true, false]) (st' := ⟨[(16, .ptr 1 0 0), (20, .ptr 1 1 0), (23, .own 1), (6, .ptr 2 0 0), (5, .own 1), (4, .val (.int .i64 0)), (3, .nil), (2, .ptr 0 0 0), (0, .val (.string s))], [(2, ⟨30, 3, true, [[.val (.int .i16 0), .val (.int .i16 0), .val (.int .i16 0)]]⟩), (1, ⟨9, 1, false, strs (splP 32 s)⟩), (0, ⟨30, 3, true, [[.val (.int .i16 0), .val (.int .i16 0), .val (.int .i16 0)]]⟩)], 3⟩) ?_ (fun hS61 => ?_)
      · skip
        refine anyS_cons T0_ok hP hm hN (by rfl) [2, 6, 9] (by rfl) rfl ?_
        refine ⟨⟨_, rfl, rfl, ?_⟩, ?_⟩
        · skip
          refine g1 ?_
          exact anyS_weak (st' := ⟨[(17, .val (.string ((splP 32 s).getD 0 baZ))), (20, .ptr 1 1 0), (23, .own 1), (6, .ptr 2 0 0), (5, .own 1), (4, .val (.int .i64 0)), (3, .nil), (2, .ptr 0 0 0), (0, .val (.string s))], [(2, ⟨30, 3, true, [[.val (.int .i16 0), .val (.int .i16 0), .val (.int .i16 0)]]⟩), (1, ⟨9, 1, false, strs (splP 32 s)⟩), (0, ⟨30, 3, true, [[.val (.int .i16 0), .val (.int .i16 0), .val (.int .i16 0)]]⟩)], 3⟩) (by exact weak_sl (sub_cons rfl (sub_cons rfl (sub_cons rfl (sub_cons rfl (sub_cons rfl (sub_cons rfl (sub_cons rfl (sub_cons rfl (sub_cons rfl (sub_nil))))))))))) hS44
        refine ⟨⟨_, rfl, rfl, ?_⟩, ?_⟩
        · skip
          refine g1 ?_
          exact anyS_weak (st' := ⟨[(16, .ptr 1 0 0), (21, .val (.string ((splP 32 s).getD 1 baZ))), (23, .own 1), (6, .ptr 2 0 0), (5, .own 1), (4, .val (.int .i64 0)), (3, .nil), (2, .ptr 0 0 0), (0, .val (.string s))], [(2, ⟨30, 3, true, [[.val (.int .i16 0), .val (.int .i16 0), .val (.int .i16 0)]]⟩), (1, ⟨9, 1, false, strs (splP 32 s)⟩), (0, ⟨30, 3, true, [[.val (.int .i16 0), .val (.int .i16 0), .val (.int .i16 0)]]⟩)], 3⟩) (by exact weak_sl (sub_cons rfl (sub_cons rfl (sub_cons rfl (sub_cons rfl (sub_cons rfl (sub_cons rfl (sub_cons rfl (sub_cons rfl (sub_cons rfl (sub_nil))))))))))) hS48
        refine ⟨⟨_, rfl, rfl, ?_⟩, trivial⟩
        refine g1 ?_
        exact anyS_weak (st' := ⟨[(16, .ptr 1 0 0), (20, .ptr 1 1 0), (24, .ptr 1 2 0), (6, .ptr 2 0 0), (5, .own 1), (4, .val (.int .i64 0)), (3, .nil), (2, .ptr 0 0 0), (0, .val (.string s))], [(2, ⟨30, 3, true, [[.val (.int .i16 0), .val (.int .i16 0), .val (.int .i16 0)]]⟩), (1, ⟨9, 1, false, strs (splP 32 s)⟩), (0, ⟨30, 3, true, [[.val (.int .i16 0), .val (.int .i16 0), .val (.int .i16 0)]]⟩)], 3⟩) (by exact weak_sl (sub_cons rfl (sub_cons rfl (sub_cons rfl (sub_cons rfl (sub_cons rfl (sub_cons rfl (sub_cons rfl (sub_cons rfl (sub_cons rfl (sub_nil))))))))))) hS50
      refine anyS_cut (fuel' := 9) (listed' := #[true, true, false, false, true, false, false, false, true, true, true, false, false, false, false]) (st' := ⟨[(16, .ptr 1 0 0), (19, .own 1), (25, .val (.string ((splP 32 s).getD 2 baZ))), (5, .own 1), (4, .val (.int .i64 0)), (3, .nil), (2, .ptr 0 0 0), (0, .val (.string s))], [(1, ⟨9, 1, false, strs (splP 32 s)⟩), (0, ⟨30, 3, true, [[.val (.int .i16 0), .val (.int .i16 0), .val (.int .i16 0)]]⟩)], 2⟩) ?_ (fun hS62 => ?_)
      · skip
        refine anyS_cons T0_ok hP hm hN (by rfl) [2, 5, 13] (by rfl) rfl ?_
        refine ⟨⟨_, rfl, rfl, ?_⟩, ?_⟩
        · skip
          refine g1 ?_
          exact anyS_weak (st' := ⟨[(17, .val (.string ((splP 32 s).getD 0 baZ))), (19, .own 1), (25, .val (.string ((splP 32 s).getD 2 baZ))), (5, .own 1), (4, .val (.int .i64 0)), (3, .nil), (2, .ptr 0 0 0), (0, .val (.string s))], [(1, ⟨9, 1, false, strs (splP 32 s)⟩), (0, ⟨30, 3, true, [[.val (.int .i16 0), .val (.int .i16 0), .val (.int .i16 0)]]⟩)], 2⟩) (by exact weak_sl (sub_cons rfl (sub_cons rfl (sub_cons rfl (sub_cons rfl (sub_cons rfl (sub_cons rfl (sub_cons rfl (sub_cons rfl (sub_nil)))))))))) hS45
        refine ⟨⟨_, rfl, rfl, ?_⟩, ?_⟩
        · skip
          refine g1 ?_
          exact anyS_weak (st' := ⟨[(16, .ptr 1 0 0), (20, .ptr 1 1 0), (25, .val (.string ((splP 32 s).getD 2 baZ))), (5, .own 1), (4, .val (.int .i64 0)), (3, .nil), (2, .ptr 0 0 0), (0, .val (.string s))], [(1, ⟨9, 1, false, strs (splP 32 s)⟩), (0, ⟨30, 3, true, [[.val (.int .i16 0), .val (.int .i16 0), .val (.int .i16 0)]]⟩)], 2⟩) (by exact weak_sl (sub_cons rfl (sub_cons rfl (sub_cons rfl (sub_cons rfl (sub_cons rfl (sub_cons rfl (sub_cons rfl (sub_cons rfl (sub_nil)))))))))) hS49
        refine ⟨⟨_, rfl, rfl, ?_⟩, trivial⟩
        refine g1 ?_
        exact anyS_weak (st' := ⟨[(16, .ptr 1 0 0), (19, .own 1), (25, .val (.string ((splP 32 s).getD 2 baZ))), (6, .ptr 2 0 0), (5, .own 1), (4, .val (.int .i64 0)), (3, .nil), (2, .ptr 0 0 0), (0, .val (.string s))], [(2, ⟨30, 3, true, [[.val (.int .i16 0), .val (.int .i16 0), .val (.int .i16 0)]]⟩), (1, ⟨9, 1, false, strs (splP 32 s)⟩), (0, ⟨30, 3, true, [[.val (.int .i16 0), .val (.int .i16 0), .val (.int .i16 0)]]⟩)], 3⟩) (by exact weak_sl (sub_cons rfl (sub_cons rfl (sub_cons rfl (sub_cons rfl (sub_cons rfl (sub_cons rfl (sub_cons rfl (sub_cons rfl (sub_cons rfl (sub_nil))))))))))) hS51
      refine anyS_cut (fuel' := 9) (listed' := #[true, true, false, false, true, false, false, false, true, true, false, false, false, true, false]) (st' := ⟨[(16, .ptr 1 0 0), (19, .own 1), (24, .ptr 1 2 0), (6, .ptr 2 0 0), (5, .own 1), (4, .val (.int .i64 0)), (3, .nil), (2, .ptr 0 0 0), (0, .val (.string s))], [(2, ⟨30, 3, true, [[.val (.int .i16 0), .val (.int .i16 0), .val (.int .i16 0)]]⟩), (1, ⟨9, 1, false, strs (splP 32 s)⟩), (0, ⟨30, 3, true, [[.val (.int .i16 0), .val (.int .i16 0), .val (.int .i16 0)]]⟩)], 3⟩) ?_ (fun hS63 => ?_)
      · skip
        refine anyS_cons T0_ok hP hm hN (by rfl) [2, 5, 10] (by rfl) rfl ?_
        refine ⟨⟨_, rfl, rfl, ?_⟩, ?_⟩
        · skip
          refine g1 ?_
          exact anyS_weak (st' := ⟨[(17, .val (.string ((splP 32 s).getD 0 baZ))), (19, .own 1), (24, .ptr 1 2 0), (6, .ptr 2 0 0), (5, .own 1), (4, .val (.int .i64 0)), (3, .nil), (2, .ptr 0 0 0), (0, .val (.string s))], [(2, ⟨30, 3, true, [[.val (.int .i16 0), .val (.int .i16 0), .val (.int .i16 0)]]⟩), (1, ⟨9, 1, false, strs (splP 32 s)⟩), (0, ⟨30, 3, true, [[.val (.int .i16 0), .val (.int .i16 0), .val (.int .i16 0)]]⟩)], 3⟩) (by exact weak_sl (sub_cons rfl (sub_cons rfl (sub_cons rfl (sub_cons rfl (sub_cons rfl (sub_cons rfl (sub_cons rfl (sub_cons rfl (sub_cons rfl (sub_nil))))))))))) hS46
        refine ⟨⟨_, rfl, rfl, ?_⟩, ?_⟩
        · skip
          refine g1 ?_
          exact anyS_weak (st' := ⟨[(16, .ptr 1 0 0), (20, .ptr 1 1 0), (24, .ptr 1 2 0), (6, .ptr 2 0 0), (5, .own 1), (4, .val (.int .i64 0)), (3, .nil), (2, .ptr 0 0 0), (0, .val (.string s))], [(2, ⟨30, 3, true, [[.val (.int .i16 0), .val (.int .i16 0), .val (.int .i16 0)]]⟩), (1, ⟨9, 1, false, strs (splP 32 s)⟩), (0, ⟨30, 3, true, [[.val (.int .i16 0), .val (.int .i16 0), .val (.int .i16 0)]]⟩)], 3⟩) (by exact weak_sl (sub_cons rfl (sub_cons rfl (sub_cons rfl (sub_cons rfl (sub_cons rfl (sub_cons rfl (sub_cons rfl (sub_cons rfl (sub_cons rfl (sub_nil))))))))))) hS50
        refine ⟨⟨_, rfl, rfl, ?_⟩, trivial⟩
        refine g1 ?_
        exact anyS_weak (st' := ⟨[(16, .ptr 1 0 0), (19, .own 1), (25, .val (.string ((splP 32 s).getD 2 baZ))), (6, .ptr 2 0 0), (5, .own 1), (4, .val (.int .i64 0)), (3, .nil), (2, .ptr 0 0 0), (0, .val (.string s))], [(2, ⟨30, 3, true, [[.val (.int .i16 0), .val (.int .i16 0), .val (.int .i16 0)]]⟩), (1, ⟨9, 1, false, strs (splP 32 s)⟩), (0, ⟨30, 3, true, [[.val (.int .i16 0), .val (.int .i16 0), .val (.int .i16 0)]]⟩)], 3⟩) (by exact weak_sl (sub_cons rfl (sub_cons rfl (sub_cons rfl (sub_cons rfl (sub_cons rfl (sub_cons rfl (sub_cons rfl (sub_cons rfl (sub_cons rfl (sub_nil))))))))))) hS51
      refine anyS_cut (fuel' := 9) (listed' := #[true, false, false, false, true, true, true, false, true, true, false, false, false, false, false]) (st' := ⟨[(15, .own 1), (21, .val (.string ((splP 32 s).getD 1 baZ))), (24, .ptr 1 2 0), (5, .own 1), (4, .val (.int .i64 0)), (3, .nil), (2, .ptr 0 0 0), (0, .val (.string s))], [(1, ⟨9, 1, false, strs (splP 32 s)⟩), (0, ⟨30, 3, true, [[.val (.int .i16 0), .val (.int .i16 0), .val (.int .i16 0)]]⟩)], 2⟩) ?_ (fun hS64 => ?_)
      · skip
        refine anyS_cons T0_ok hP hm hN (by rfl) [1, 10, 13] (by rfl) rfl ?_
        refine ⟨⟨_, rfl, rfl, ?_⟩, ?_⟩
        · skip
          refine g1 ?_
          exact anyS_weak (st' := ⟨[(16, .ptr 1 0 0), (21, .val (.string ((splP 32 s).getD 1 baZ))), (24, .ptr 1 2 0), (5, .own 1), (4, .val (.int .i64 0)), (3, .nil), (2, .ptr 0 0 0), (0, .val (.string s))], [(1, ⟨9, 1, false, strs (splP 32 s)⟩), (0, ⟨30, 3, true, [[.val (.int .i16 0), .val (.int .i16 0), .val (.int .i16 0)]]⟩)], 2⟩) (by exact weak_sl (sub_cons rfl (sub_cons rfl (sub_cons rfl (sub_cons rfl (sub_cons rfl (sub_cons rfl (sub_cons rfl (sub_cons rfl (sub_nil)))))))))) hS47
        refine ⟨⟨_, rfl, rfl, ?_⟩, ?_⟩
        · skip
          refine g1 ?_
          exact anyS_weak (st' := ⟨[(15, .own 1), (21, .val (.string ((splP 32 s).getD 1 baZ))), (25, .val (.string ((splP 32 s).getD 2 baZ))), (5, .own 1), (4, .val (.int .i64 0)), (3, .nil), (2, .ptr 0 0 0), (0, .val (.string s))], [(1, ⟨9, 1, false, strs (splP 32 s)⟩), (0, ⟨30, 3, true, [[.val (.int .i16 0), .val (.int .i16 0), .val (.int .i16 0)]]⟩)], 2⟩) (by exact weak_sl (sub_cons rfl (sub_cons rfl (sub_cons rfl (sub_cons rfl (sub_cons rfl (sub_cons rfl (sub_cons rfl (sub_cons rfl (sub_nil)))))))))) hS52
        refine ⟨⟨_, rfl, rfl, ?_⟩, trivial⟩
        refine g1 ?_
        exact anyS_weak (st' := ⟨[(15, .own 1), (21, .val (.string ((splP 32 s).getD 1 baZ))), (24, .ptr 1 2 0), (6, .ptr 2 0 0), (5, .own 1), (4, .val (.int .i64 0)), (3, .nil), (2, .ptr 0 0 0), (0, .val (.string s))], [(2, ⟨30, 3, true, [[.val (.int .i16 0), .val (.int .i16 0), .val (.int .i16 0)]]⟩), (1, ⟨9, 1, false, strs (splP 32 s)⟩), (0, ⟨30, 3, true, [[.val (.int .i16 0), .val (.int .i16 0), .val (.int .i16 0)]]⟩)], 3⟩) (by exact weak_sl (sub_cons rfl (sub_cons rfl (sub_cons rfl (sub_cons rfl (sub_cons rfl (sub_cons rfl (sub_cons rfl (sub_cons rfl (sub_cons rfl (sub_nil))))))))))) hS53
      refine anyS_cut (fuel' := 9) (listed' := #[true, false, false, false, true, true, true, false, true, false, false, false, false, true, false]) (st' := ⟨[(15, .own 1), (21, .val (.string ((splP 32 s).getD 1 baZ))), (23, .own 1), (6, .ptr 2 0 0), (5, .own 1), (4, .val (.int .i64 0)), (3, .nil), (2, .ptr 0 0 0), (0, .val (.string s))], [(2, ⟨30, 3, true, [[.val (.int .i16 0), .val (.int .i16 0), .val (.int .i16 0)]]⟩), (1, ⟨9, 1, false, strs (splP 32 s)⟩), (0, ⟨30, 3, true, [[.val (.int .i16 0), .val (.int .i16 0), .val (.int .i16 0)]]⟩)], 3⟩) ?_ (fun hS65 => ?_)
      · skip
        refine anyS_cons T0_ok hP hm hN (by rfl) [1, 9] (by rfl) rfl ?_
        refine ⟨⟨_, rfl, rfl, ?_⟩, ?_⟩
        · skip
          refine g1 ?_
          exact anyS_weak (st' := ⟨[(16, .ptr 1 0 0), (21, .val (.string ((splP 32 s).getD 1 baZ))), (23, .own 1), (6, .ptr 2 0 0), (5, .own 1), (4, .val (.int .i64 0)), (3, .nil), (2, .ptr 0 0 0), (0, .val (.string s))], [(2, ⟨30, 3, true, [[.val (.int .i16 0), .val (.int .i16 0), .val (.int .i16 0)]]⟩), (1, ⟨9, 1, false, strs (splP 32 s)⟩), (0, ⟨30, 3, true, [[.val (.int .i16 0), .val (.int .i16 0), .val (.int .i16 0)]]⟩)], 3⟩) (by exact weak_sl (sub_cons rfl (sub_cons rfl (sub_cons rfl (sub_cons rfl (sub_cons rfl (sub_cons rfl (sub_cons rfl (sub_cons rfl (sub_cons rfl (sub_nil))))))))))) hS48
        refine ⟨⟨_, rfl, rfl, ?_⟩, trivial⟩
        refine g1 ?_
        exact anyS_weak (st' := ⟨[(15, .own 1), (21, .val (.string ((splP 32 s).getD 1 baZ))), (24, .ptr 1 2 0), (6, .ptr 2 0 0), (5, .own 1), (4, .val (.int .i64 0)), (3, .nil), (2, .ptr 0 0 0), (0, .val (.string s))], [(2, ⟨30, 3, true, [[.val (.int .i16 0), .val (.int .i16 0), .val (.int .i16 0)]]⟩), (1, ⟨9, 1, false, strs (splP 32 s)⟩), (0, ⟨30, 3, true, [[.val (.int .i16 0), .val (.int .i16 0), .val (.int .i16 0)]]⟩)], 3⟩) (by exact weak_sl (sub_cons rfl (sub_cons rfl (sub_cons rfl (sub_cons rfl (sub_cons rfl (sub_cons rfl (sub_cons rfl (sub_cons rfl (sub_cons rfl (sub_nil))))))))))) hS53
      refine anyS_cut (fuel' := 9) (listed' := #[true, false, false, false, true, true, false, false, true, true, true, false, false, false, false]) (st' := ⟨[(15, .own 1), (20, .ptr 1 1 0), (25, .val (.string ((splP 32 s).getD 2 baZ))), (5, .own 1), (4, .val (.int .i64 0)), (3, .nil), (2, .ptr 0 0 0), (0, .val (.string s))], [(1, ⟨9, 1, false, strs (splP 32 s)⟩), (0, ⟨30, 3, true, [[.val (.int .i16 0), .val (.int .i16 0), .val (.int .i16 0)]]⟩)], 2⟩) ?_ (fun hS66 => ?_)
      · skip
        refine anyS_cons T0_ok hP hm hN (by rfl) [1, 6, 13] (by rfl) rfl ?_
        refine ⟨⟨_, rfl, rfl, ?_⟩, ?_⟩
        · skip
          refine g1 ?_
          exact anyS_weak (st' := ⟨[(16, .ptr 1 0 0), (20, .ptr 1 1 0), (25, .val (.string ((splP 32 s).getD 2 baZ))), (5, .own 1), (4, .val (.int .i64 0)), (3, .nil), (2, .ptr 0 0 0), (0, .val (.string s))], [(1, ⟨9, 1, false, strs (splP 32 s)⟩), (0, ⟨30, 3, true, [[.val (.int .i16 0), .val (.int .i16 0), .val (.int .i16 0)]]⟩)], 2⟩) (by exact weak_sl (sub_cons rfl (sub_cons rfl (sub_cons rfl (sub_cons rfl (sub_cons rfl (sub_cons rfl (sub_cons rfl (sub_cons rfl (sub_nil)))))))))) hS49
        refine ⟨⟨_, rfl, rfl, ?_⟩, ?_⟩
        · skip
          refine g1 ?_
          exact anyS_weak (st' := ⟨[(15, .own 1), (21, .val (.string ((splP 32 s).getD 1 baZ))), (25, .val (.string ((splP 32 s).getD 2 baZ))), (5, .own 1), (4, .val (.int .i64 0)), (3, .nil), (2, .ptr 0 0 0), (0, .val (.string s))], [(1, ⟨9, 1, false, strs (splP 32 s)⟩), (0, ⟨30, 3, true, [[.val (.int .i16 0), .val (.int .i16 0), .val (.int .i16 0)]]⟩)], 2⟩) (by exact weak_sl (sub_cons rfl (sub_cons rfl (sub_cons rfl (sub_cons rfl (sub_cons rfl (sub_cons rfl (sub_cons rfl (sub_cons rfl (sub_nil)))))))))) hS52
        refine ⟨⟨_, rfl, rfl, ?_⟩, trivial⟩
        refine g1 ?_
        exact anyS_weak (st' := ⟨[(15, .own 1), (20, .ptr 1 1 0), (25, .val (.string ((splP 32 s).getD 2 baZ))), (6, .ptr 2 0 0), (5, .own 1), (4, .val (.int .i64 0)), (3, .nil), (2, .ptr 0 0 0), (0, .val (.string s))], [(2, ⟨30, 3, true, [[.val (.int .i16 0), .val (.int .i16 0), .val (.int .i16 0)]]⟩), (1, ⟨9, 1, false, strs (splP 32 s)⟩), (0, ⟨30, 3, true, [[.val (.int .i16 0), .val (.int .i16 0), .val (.int .i16 0)]]⟩)], 3⟩) (by exact weak_sl (sub_cons rfl (sub_cons rfl (sub_cons rfl (sub_cons rfl (sub_cons rfl (sub_cons rfl (sub_cons rfl (sub_cons rfl (sub_cons rfl (sub_nil))))))))))) hS54
      refine anyS_cut (fuel' := 9) (listed' := #[true, false, false, false, true, true, false, false, true, true, false, false, false, true, false]) (st' := ⟨[(15, .own 1), (20, .ptr 1 1 0), (24, .ptr 1 2 0), (6, .ptr 2 0 0), (5, .own 1), (4, .val (.int .i64 0)), (3, .nil), (2, .ptr 0 0 0), (0, .val (.string s))], [(2, ⟨30, 3, true, [[.val (.int .i16 0), .val (.int .i16 0), .val (.int .i16 0)]]⟩), (1, ⟨9, 1, false, strs (splP 32 s)⟩), (0, ⟨30, 3, true, [[.val (.int .i16 0), .val (.int .i16 0), .val (.int .i16 0)]]⟩)], 3⟩) ?_ (fun hS67 => ?_)
      · skip
        refine anyS_cons T0_ok hP hm hN (by rfl) [1, 6, 10] (by rfl) rfl ?_
        refine ⟨⟨_, rfl, rfl, ?_⟩, ?_⟩
        · skip
          refine g1 ?_
          exact anyS_weak (st' := ⟨[(16, .ptr 1 0 0), (20, .ptr 1 1 0), (24, .ptr 1 2 0), (6, .ptr 2 0 0), (5, .own 1), (4, .val (.int .i64 0)), (3, .nil), (2, .ptr 0 0 0), (0, .val (.string s))], [(2, ⟨30, 3, true, [[.val (.int .i16 0), .val (.int .i16 0), .val (.int .i16 0)]]⟩), (1, ⟨9, 1, false, strs (splP 32 s)⟩), (0, ⟨30, 3, true, [[.val (.int .i16 0), .val (.int .i16 0), .val (.int .i16 0)]]⟩)], 3⟩) (by exact weak_sl (sub_cons rfl (sub_cons rfl (sub_cons rfl (sub_cons rfl (sub_cons rfl (sub_cons rfl (sub_cons rfl (sub_cons rfl (sub_cons rfl (sub_nil))))))))))) hS50
        refine ⟨⟨_, rfl, rfl, ?_⟩, ?_⟩
        · skip
          refine g1 ?_
          exact anyS_weak (st' := ⟨[(15, .own 1), (21, .val (.string ((splP 32 s).getD 1 baZ))), (24, .ptr 1 2 0), (6, .ptr 2 0 0), (5, .own 1), (4, .val (.int .i64 0)), (3, .nil), (2, .ptr 0 0 0), (0, .val (.string s))], [(2, ⟨30, 3, true, [[.val (.int .i16 0), .val (.int .i16 0), .val (.int .i16 0)]]⟩), (1, ⟨9, 1, false, strs (splP 32 s)⟩), (0, ⟨30, 3, true, [[.val (.int .i16 0), .val (.int .i16 0), .val (.int .i16 0)]]⟩)], 3⟩) (by exact weak_sl (sub_cons rfl (sub_cons rfl (sub_cons rfl (sub_cons rfl (sub_cons rfl (sub_cons rfl (sub_cons rfl (sub_cons rfl (sub_cons rfl (sub_nil))))))))))) hS53
        refine ⟨⟨_, rfl, rfl, ?_⟩, trivial⟩
        refine g1 ?_
        exact anyS_weak (st' := ⟨[(15, .own 1), (20, .ptr 1 1 0), (25, .val (.string ((splP 32 s).getD 2 baZ))), (6, .ptr 2 0 0), (5, .own 1), (4, .val (.int .i64 0)), (3, .nil), (2, .ptr 0 0 0), (0, .val (.string s))], [(2, ⟨30, 3, true, [[.val (.int .i16 0), .val (.int .i16 0), .val (.int .i16 0)]]⟩), (1, ⟨9, 1, false, strs (splP 32 s)⟩), (0, ⟨30, 3, true, [[.val (.int .i16 0), .val (.int .i16 0), .val (.int .i16 0)]]⟩)], 3⟩) (by exact weak_sl (sub_cons rfl (sub_cons rfl (sub_cons rfl (sub_cons rfl (sub_cons rfl (sub_cons rfl (sub_cons rfl (sub_cons rfl (sub_cons rfl (sub_nil))))))))))) hS54
      refine anyS_cut (fuel' := 9) (listed' := #[true, false, false, false, true, false, false, false, true, true, true, false, false, true, false]) (st' := ⟨[(15, .own 1), (19, .own 1), (25, .val (.string ((splP 32 s).getD 2 baZ))), (6, .ptr 2 0 0), (5, .own 1), (4, .val (.int .i64 0)), (3, .nil), (2, .ptr 0 0 0), (0, .val (.string s))], [(2, ⟨30, 3, true, [[.val (.int .i16 0), .val (.int .i16 0), .val (.int .i16 0)]]⟩), (1, ⟨9, 1, false, strs (splP 32 s)⟩), (0, ⟨30, 3, true, [[.val (.int .i16 0), .val (.int .i16 0), .val (.int .i16 0)]]⟩)], 3⟩) ?_ (fun hS68 => ?_)
      · skip
        refine anyS_cons T0_ok hP hm hN (by rfl) [1, 5] (by rfl) rfl ?_
        refine ⟨⟨_, rfl, rfl, ?_⟩, ?_⟩
        · skip
          refine g1 ?_
          exact anyS_weak (st' := ⟨[(16, .ptr 1 0 0), (19, .own 1), (25, .val (.string ((splP 32 s).getD 2 baZ))), (6, .ptr 2 0 0), (5, .own 1), (4, .val (.int .i64 0)), (3, .nil), (2, .ptr 0 0 0), (0, .val (.string s))], [(2, ⟨30, 3, true, [[.val (.int .i16 0), .val (.int .i16 0), .val (.int .i16 0)]]⟩), (1, ⟨9, 1, false, strs (splP 32 s)⟩), (0, ⟨30, 3, true, [[.val (.int .i16 0), .val (.int .i16 0), .val (.int .i16 0)]]⟩)], 3⟩) (by exact weak_sl (sub_cons rfl (sub_cons rfl (sub_cons rfl (sub_cons rfl (sub_cons rfl (sub_cons rfl (sub_cons rfl (sub_cons rfl (sub_cons rfl (sub_nil))))))))))) hS51
        refine ⟨⟨_, rfl, rfl, ?_⟩, trivial⟩
        refine g1 ?_
        exact anyS_weak (st' := ⟨[(15, .own 1), (20, .ptr 1 1 0), (25, .val (.string ((splP 32 s).getD 2 baZ))), (6, .ptr 2 0 0), (5, .own 1), (4, .val (.int .i64 0)), (3, .nil), (2, .ptr 0 0 0), (0, .val (.string s))], [(2, ⟨30, 3, true, [[.val (.int .i16 0), .val (.int .i16 0), .val (.int .i16 0)]]⟩), (1, ⟨9, 1, false, strs (splP 32 s)⟩), (0, ⟨30, 3, true, [[.val (.int .i16 0), .val (.int .i16 0), .val (.int .i16 0)]]⟩)], 3⟩) (by exact weak_sl (sub_cons rfl (sub_cons rfl (sub_cons rfl (sub_cons rfl (sub_cons rfl (sub_cons rfl (sub_cons rfl (sub_cons rfl (sub_cons rfl (sub_nil))))))))))) hS54
      refine anyS_cut (fuel' := 10) (listed' := #[true, true, true, false, true, false, false, false, true, false, false, false, false, false, false]) (st' := ⟨[(17, .val (.string ((splP 32 s).getD 0 baZ))), (19, .own 1), (23, .own 1), (5, .own 1), (4, .val (.int .i64 0)), (3, .nil), (2, .ptr 0 0 0), (0, .val (.string s))], [(1, ⟨9, 1, false, strs (splP 32 s)⟩), (0, ⟨30, 3, true, [[.val (.int .i16 0), .val (.int .i16 0), .val (.int .i16 0)]]⟩)], 2⟩) ?_ (fun hS69 => ?_)
      · skip
        refine anyS_cons T0_ok hP hm hN (by rfl) [3, 5, 9, 13] (by rfl) rfl ?_
        refine ⟨⟨_, rfl, rfl, ?_⟩, ?_⟩
        · skip
          refine gc1 ?_ (call1 ok_I_short ((splP 32 s).getD 0 baZ) [] (hpre := by (try dsimp only); omega))
          exact anyS_weak (st' := ⟨[(18, .val (.int .i16 (shW ((splP 32 s).getD 0 baZ)))), (19, .own 1), (23, .own 1), (5, .own 1), (4, .val (.int .i64 0)), (3, .nil), (2, .ptr 0 0 0), (0, .val (.string s))], [(1, ⟨9, 1, false, strs (splP 32 s)⟩), (0, ⟨30, 3, true, [[.val (.int .i16 0), .val (.int .i16 0), .val (.int .i16 0)]]⟩)], 2⟩) (by exact weak_sl (sub_cons rfl (sub_cons rfl (sub_cons rfl (sub_cons rfl (sub_cons rfl (sub_cons rfl (sub_cons rfl (sub_cons rfl (sub_nil)))))))))) hS55
        refine ⟨⟨_, rfl, rfl, ?_⟩, ?_⟩
        · skip
          refine g1 ?_
          exact anyS_weak (st' := ⟨[(17, .val (.string ((splP 32 s).getD 0 baZ))), (20, .ptr 1 1 0), (23, .own 1), (5, .own 1), (4, .val (.int .i64 0)), (3, .nil), (2, .ptr 0 0 0), (0, .val (.string s))], [(1, ⟨9, 1, false, strs (splP 32 s)⟩), (0, ⟨30, 3, true, [[.val (.int .i16 0), .val (.int .i16 0), .val (.int .i16 0)]]⟩)], 2⟩) (by exact weak_sl (sub_cons rfl (sub_cons rfl (sub_cons rfl (sub_cons rfl (sub_cons rfl (sub_cons rfl (sub_cons rfl (sub_cons rfl (sub_nil)))))))))) hS56
        refine ⟨⟨_, rfl, rfl, ?_⟩, ?_⟩
        · skip
          refine g1 ?_
          exact anyS_weak (st' := ⟨[(17, .val (.string ((splP 32 s).getD 0 baZ))), (19, .own 1), (24, .ptr 1 2 0), (5, .own 1), (4, .val (.int .i64 0)), (3, .nil), (2, .ptr 0 0 0), (0, .val (.string s))], [(1, ⟨9, 1, false, strs (splP 32 s)⟩), (0, ⟨30, 3, true, [[.val (.int .i16 0), .val (.int .i16 0), .val (.int .i16 0)]]⟩)], 2⟩) (by exact weak_sl (sub_cons rfl (sub_cons rfl (sub_cons rfl (sub_cons rfl (sub_cons rfl (sub_cons rfl (sub_cons rfl (sub_cons rfl (sub_nil)))))))))) hS57
        refine ⟨⟨_, rfl, rfl, ?_⟩, trivial⟩
        refine g1 ?_
        exact anyS_weak (st' := ⟨[(17, .val (.string ((splP 32 s).getD 0 baZ))), (19, .own 1), (23, .own 1), (6, .ptr 2 0 0), (5, .own 1), (4, .val (.int .i64 0)), (3, .nil), (2, .ptr 0 0 0), (0, .val (.string s))], [(2, ⟨30, 3, true, [[.val (.int .i16 0), .val (.int .i16 0), .val (.int .i16 0)]]⟩), (1, ⟨9, 1, false, strs (splP 32 s)⟩), (0, ⟨30, 3, true, [[.val (.int .i16 0), .val (.int .i16 0), .val (.int .i16 0)]]⟩)], 3⟩) (by exact weak_sl (sub_cons rfl (sub_cons rfl (sub_cons rfl (sub_cons rfl (sub_cons rfl (sub_cons rfl (sub_cons rfl (sub_cons rfl (sub_cons rfl (sub_nil))))))))))) hS58
      refine anyS_cut (fuel' := 10) (listed' := #[true, true, false, false, true, true, false, false, true, false, false, false, false, false, false]) (st' := ⟨[(16, .ptr 1 0 0), (20, .ptr 1 1 0), (23, .own 1), (5, .own 1), (4, .val (.int .i64 0)), (3, .nil), (2, .ptr 0 0 0), (0, .val (.string s))], [(1, ⟨9, 1, false, strs (splP 32 s)⟩), (0, ⟨30, 3, true, [[.val (.int .i16 0), .val (.int .i16 0), .val (.int .i16 0)]]⟩)], 2⟩) ?_ (fun hS70 => ?_)
      · skip
        refine anyS_cons T0_ok hP hm hN (by rfl) [2, 6, 9, 13] (by rfl) rfl ?_
        refine ⟨⟨_, rfl, rfl, ?_⟩, ?_⟩
        · skip
          refine g1 ?_
          exact anyS_weak (st' := ⟨[(17, .val (.string ((splP 32 s).getD 0 baZ))), (20, .ptr 1 1 0), (23, .own 1), (5, .own 1), (4, .val (.int .i64 0)), (3, .nil), (2, .ptr 0 0 0), (0, .val (.string s))], [(1, ⟨9, 1, false, strs (splP 32 s)⟩), (0, ⟨30, 3, true, [[.val (.int .i16 0), .val (.int .i16 0), .val (.int .i16 0)]]⟩)], 2⟩) (by exact weak_sl (sub_cons rfl (sub_cons rfl (sub_cons rfl (sub_cons rfl (sub_cons rfl (sub_cons rfl (sub_cons rfl (sub_cons rfl (sub_nil)))))))))) hS56
        refine ⟨⟨_, rfl, rfl, ?_⟩, ?_⟩
        · skip
          refine g1 ?_
          exact anyS_weak (st' := ⟨[(16, .ptr 1 0 0), (21, .val (.string ((splP 32 s).getD 1 baZ))), (23, .own 1), (5, .own 1), (4, .val (.int .i64 0)), (3, .nil), (2, .ptr 0 0 0), (0, .val (.string s))], [(1, ⟨9, 1, false, strs (splP 32 s)⟩), (0, ⟨30, 3, true, [[.val (.int .i16 0), .val (.int .i16 0), .val (.int .i16 0)]]⟩)], 2⟩) (by exact weak_sl (sub_cons rfl (sub_cons rfl (sub_cons rfl (sub_cons rfl (sub_cons rfl (sub_cons rfl (sub_cons rfl (sub_cons rfl (sub_nil)))))))))) hS59
        refine ⟨⟨_, rfl, rfl, ?_⟩, ?_⟩
        · skip
          refine g1 ?_
          exact anyS_weak (st' := ⟨[(16, .ptr 1 0 0), (20, .ptr 1 1 0), (24, .ptr 1 2 0), (5, .own 1), (4, .val (.int .i64 0)), (3, .nil), (2, .ptr 0 0 0), (0, .val (.string s))], [(1, ⟨9, 1, false, strs (splP 32 s)⟩), (0, ⟨30, 3, true, [[.val (.int .i16 0), .val (.int .i16 0), .val (.int .i16 0)]]⟩)], 2⟩) (by exact weak_sl (sub_cons rfl (sub_cons rfl (sub_cons rfl (sub_cons rfl (sub_cons rfl (sub_cons rfl (sub_cons rfl (sub_cons rfl (sub_nil)))))))))) hS60
        refine ⟨⟨_, rfl, rfl, ?_⟩, trivial⟩
        refine g1 ?_
        exact anyS_weak (st' := ⟨[(16, .ptr 1 0 0), (20, .ptr 1 1 0), (23, .own 1), (6, .ptr 2 0 0), (5, .own 1), (4, .val (.int .i64 0)), (3, .nil), (2, .ptr 0 0 0), (0, .val (.string s))], [(2, ⟨30, 3, true, [[.val (.int .i16 0), .val (.int .i16 0), .val (.int .i16 0)]]⟩), (1, ⟨9, 1, false, strs (splP 32 s)⟩), (0, ⟨30, 3, true, [[.val (.int .i16 0), .val (.int .i16 0), .val (.int .i16 0)]]⟩)], 3⟩) (by exact weak_sl (sub_cons rfl (sub_cons rfl (sub_cons rfl (sub_cons rfl (sub_cons rfl (sub_cons rfl (sub_cons rfl (sub_cons rfl (sub_cons rfl (sub_nil))))))))))) hS61
      refine anyS_cut (fuel' := 10) (listed' := #[true, true, false, false, true, false, false, false, true, true, false, false, false, false, false]) (st' := ⟨[(16, .ptr 1 0 0), (19, .own 1), (24, .ptr 1 2 0), (5, .own 1), (4, .val (.int .i64 0)), (3, .nil), (2, .ptr 0 0 0), (0, .val (.string s))], [(1, ⟨9, 1, false, strs (splP 32 s)⟩), (0, ⟨30, 3, true, [[.val (.int .i16 0), .val (.int .i16 0), .val (.int .i16 0)]]⟩)], 2⟩) ?_ (fun hS71 => ?_)
      · skip
        refine anyS_cons T0_ok hP hm hN (by rfl) [2, 5, 10, 13] (by rfl) rfl ?_
        refine ⟨⟨_, rfl, rfl, ?_⟩, ?_⟩
        · skip
          refine g1 ?_
          exact anyS_weak (st' := ⟨[(17, .val (.string ((splP 32 s).getD 0 baZ))), (19, .own 1), (24, .ptr 1 2 0), (5, .own 1), (4, .val (.int .i64 0)), (3, .nil), (2, .ptr 0 0 0), (0, .val (.string s))], [(1, ⟨9, 1, false, strs (splP 32 s)⟩), (0, ⟨30, 3, true, [[.val (.int .i16 0), .val (.int .i16 0), .val (.int .i16 0)]]⟩)], 2⟩) (by exact weak_sl (sub_cons rfl (sub_cons rfl (sub_cons rfl (sub_cons rfl (sub_cons rfl (sub_cons rfl (sub_cons rfl (sub_cons rfl (sub_nil)))))))))) hS57
        refine ⟨⟨_, rfl, rfl, ?_⟩, ?_⟩
        · skip
          refine g1 ?_
          exact anyS_weak (st' := ⟨[(16, .ptr 1 0 0), (20, .ptr 1 1 0), (24, .ptr 1 2 0), (5, .own 1), (4, .val (.int .i64 0)), (3, .nil), (2, .ptr 0 0 0), (0, .val (.string s))], [(1, ⟨9, 1, false, strs (splP 32 s)⟩), (0, ⟨30, 3, true, [[.val (.int .i16 0), .val (.int .i16 0), .val (.int .i16 0)]]⟩)], 2⟩) (by exact weak_sl (sub_cons rfl (sub_cons rfl (sub_cons rfl (sub_cons rfl (sub_cons rfl (sub_cons rfl (sub_cons rfl (sub_cons rfl (sub_nil)))))))))) hS60
        refine ⟨⟨_, rfl, rfl, ?_⟩, ?_⟩
        · skip
          refine g1 ?_
          exact anyS_weak (st' := ⟨[(16, .ptr 1 0 0), (19, .own 1), (25, .val (.string ((splP 32 s).getD 2 baZ))), (5, .own 1), (4, .val (.int .i64 0)), (3, .nil), (2, .ptr 0 0 0), (0, .val (.string s))], [(1, ⟨9, 1, false, strs (splP 32 s)⟩), (0, ⟨30, 3, true, [[.val (.int .i16 0), .val (.int .i16 0), .val (.int .i16 0)]]⟩)], 2⟩) (by exact weak_sl (sub_cons rfl (sub_cons rfl (sub_cons rfl (sub_cons rfl (sub_cons rfl (sub_cons rfl (sub_cons rfl (sub_cons rfl (sub_nil)))))))))) hS62
        refine ⟨⟨_, rfl, rfl, ?_⟩, trivial⟩
        refine g1 ?_
        exact anyS_weak (st' := ⟨[(16, .ptr 1 0 0), (19, .own 1), (24, .ptr 1 2 0), (6, .ptr 2 0 0), (5, .own 1), (4, .val (.int .i64 0)), (3, .nil), (2, .ptr 0 0 0), (0, .val (.string s))], [(2, ⟨30, 3, true, [[.val (.int .i16 0), .val (.int .i16 0), .val (.int .i16 0)]]⟩), (1, ⟨9, 1, false, strs (splP 32 s)⟩), (0, ⟨30, 3, true, [[.val (.int .i16 0), .val (.int .i16 0), .val (.int .i16 0)]]⟩)], 3⟩) (by exact weak_sl (sub_cons rfl (sub_cons rfl (sub_cons rfl (sub_cons rfl (sub_cons rfl (sub_cons rfl (sub_cons rfl (sub_cons rfl (sub_cons rfl (sub_nil))))))))))) hS63
      refine anyS_cut (fuel' := 10) (listed' := #[true, true, false, false, true, false, false, false, true, false, false, false, false, true, false]) (st' := ⟨[(16, .ptr 1 0 0), (19, .own 1), (23, .own 1), (6, .ptr 2 0 0), (5, .own 1), (4, .val (.int .i64 0)), (3, .nil), (2, .ptr 0 0 0), (0, .val (.string s))], [(2, ⟨30, 3, true, [[.val (.int .i16 0), .val (.int .i16 0), .val (.int .i16 0)]]⟩), (1, ⟨9, 1, false, strs (splP 32 s)⟩), (0, ⟨30, 3, true, [[.val (.int .i16 0), .val (.int .i16 0), .val (.int .i16 0)]]⟩)], 3⟩) ?_ (fun hS72 => ?_)
      · skip
        refine anyS_cons T0_ok hP hm hN (by rfl) [2, 5, 9] (by rfl) rfl ?_
        refine ⟨⟨_, rfl, rfl, ?_⟩, ?_⟩
        · skip
          refine g1 ?_
          exact anyS_weak (st' := ⟨[(17, .val (.string ((splP 32 s).getD 0 baZ))), (19, .own 1), (23, .own 1), (6, .ptr 2 0 0), (5, .own 1), (4, .val (.int .i64 0)), (3, .nil), (2, .ptr 0 0 0), (0, .val (.string s))], [(2, ⟨30, 3, true, [[.val (.int .i16 0), .val (.int .i16 0), .val (.int .i16 0)]]⟩), (1, ⟨9, 1, false, strs (splP 32 s)⟩), (0, ⟨30, 3, true, [[.val (.int .i16 0), .val (.int .i16 0), .val (.int .i16 0)]]⟩)], 3⟩) (by exact weak_sl (sub_cons rfl (sub_cons rfl (sub_cons rfl (sub_cons rfl (sub_cons rfl (sub_cons rfl (sub_cons rfl (sub_cons rfl (sub_cons rfl (sub_nil))))))))))) hS58
        refine ⟨⟨_, rfl, rfl, ?_⟩, ?_⟩
        · skip
          refine g1 ?_
          exact anyS_weak (st' := ⟨[(16, .ptr 1 0 0), (20, .ptr 1 1 0), (23, .own 1), (6, .ptr 2 0 0), (5, .own 1), (4, .val (.int .i64 0)), (3, .nil), (2, .ptr 0 0 0), (0, .val (.string s))], [(2, ⟨30, 3, true, [[.val (.int .i16 0), .val (.int .i16 0), .val (.int .i16 0)]]⟩), (1, ⟨9, 1, false, strs (splP 32 s)⟩), (0, ⟨30, 3, true, [[.val (.int .i16 0), .val (.int .i16 0), .val (.int .i16 0)]]⟩)], 3⟩) (by exact weak_sl (sub_cons rfl (sub_cons rfl (sub_cons rfl (sub_cons rfl (sub_cons rfl (sub_cons rfl (sub_cons rfl (sub_cons rfl (sub_cons rfl (sub_nil))))))))))) hS61
        refine ⟨⟨_, rfl, rfl, ?_⟩, trivial⟩
        refine g1 ?_
        exact anyS_weak (st' := ⟨[(16, .ptr 1 0 0), (19, .own 1), (24, .ptr 1 2 0), (6, .ptr 2 0 0), (5, .own 1), (4, .val (.int .i64 0)), (3, .nil), (2, .ptr 0 0 0), (0, .val (.string s))], [(2, ⟨30, 3, true, [[.val (.int .i16 0), .val (.int .i16 0), .val (.int .i16 0)]]⟩), (1, ⟨9, 1, false, strs (splP 32 s)⟩), (0, ⟨30, 3, true, [[.val (.int .i16 0), .val (.int .i16 0), .val (.int .i16 0)]]⟩)], 3⟩) (by exact weak_sl (sub_cons rfl (sub_cons rfl (sub_cons rfl (sub_cons rfl (sub_cons rfl (sub_cons rfl (sub_cons rfl (sub_cons rfl (sub_cons rfl (sub_nil))))))))))) hS63
      refine anyS_cut (fuel' := 10) (listed' := #[true, false, false, false, true, true, true, false, true, false, false, false, false, false, false]) (st' := ⟨[(15, .own 1), (21, .val (.string ((splP 32 s).getD 1 baZ))), (23, .own 1), (5, .own 1), (4, .val (.int .i64 0)), (3, .nil), (2, .ptr 0 0 0), (0, .val (.string s))], [(1, ⟨9, 1, false, strs (splP 32 s)⟩), (0, ⟨30, 3, true, [[.val (.int .i16 0), .val (.int .i16 0), .val (.int .i16 0)]]⟩)], 2⟩) ?_ (fun hS73 => ?_)
      · skip
        refine anyS_cons T0_ok hP hm hN (by rfl) [1, 9, 13] (by rfl) rfl ?_
        refine ⟨⟨_, rfl, rfl, ?_⟩, ?_⟩
        · skip
          refine g1 ?_
          exact anyS_weak (st' := ⟨[(16, .ptr 1 0 0), (21, .val (.string ((splP 32 s).getD 1 baZ))), (23, .own 1), (5, .own 1), (4, .val (.int .i64 0)), (3, .nil), (2, .ptr 0 0 0), (0, .val (.string s))], [(1, ⟨9, 1, false, strs (splP 32 s)⟩), (0, ⟨30, 3, true, [[.val (.int .i16 0), .val (.int .i16 0), .val (.int .i16 0)]]⟩)], 2⟩) (by exact weak_sl (sub_cons rfl (sub_cons rfl (sub_cons rfl (sub_cons rfl (sub_cons rfl (sub_cons rfl (sub_cons rfl (sub_cons rfl (sub_nil)))))))))) hS59
        refine ⟨⟨_, rfl, rfl, ?_⟩, ?_⟩
        · skip
          refine g1 ?_
          exact anyS_weak (st' := ⟨[(15, .own 1), (21, .val (.string ((splP 32 s).getD 1 baZ))), (24, .ptr 1 2 0), (5, .own 1), (4, .val (.int .i64 0)), (3, .nil), (2, .ptr 0 0 0), (0, .val (.string s))], [(1, ⟨9, 1, false, strs (splP 32 s)⟩), (0, ⟨30, 3, true, [[.val (.int .i16 0), .val (.int .i16 0), .val (.int .i16 0)]]⟩)], 2⟩) (by exact weak_sl (sub_cons rfl (sub_cons rfl (sub_cons rfl (sub_cons rfl (sub_cons rfl (sub_cons rfl (sub_cons rfl (sub_cons rfl (sub_nil)))))))))) hS64
        refine ⟨⟨_, rfl, rfl, ?_⟩, trivial⟩
        refine g1 ?_
        exact anyS_weak (st' := ⟨[(15, .own 1), (21, .val (.string ((splP 32 s).getD 1 baZ))), (23, .own 1), (6, .ptr 2 0 0), (5, .own 1), (4, .val (.int .i64 0)), (3, .nil), (2, .ptr 0 0 0), (0, .val (.string s))], [(2, ⟨30, 3, true, [[.val (.int .i16 0), .val (.int .i16 0), .val (.int .i16 0)]]⟩), (1, ⟨9, 1, false, strs (splP 32 s)⟩), (0, ⟨30, 3, true, [[.val (.int .i16 0), .val (.int .i16 0), .val (.int .i16 0)]]⟩)], 3⟩) (by exact weak_sl (sub_cons rfl (sub_cons rfl (sub_cons rfl (sub_cons rfl (sub_cons rfl (sub_cons rfl (sub_cons rfl (sub_cons rfl (sub_cons rfl (sub_nil))))))))))) hS65
      refine anyS_cut (fuel' := 10) (listed' := #[true, false, false, false, true, true, false, false, true, true, false, false, false, false, false]) (st' := ⟨[(15, .own 1), (20, .ptr 1 1 0), (24, .ptr 1 2 0), (5, .own 1), (4, .val (.int .i64 0)), (3, .nil), (2, .ptr 0 0 0), (0, .val (.string s))], [(1, ⟨9, 1, false, strs (splP 32 s)⟩), (0, ⟨30, 3, true, [[.val (.int .i16 0), .val (.int .i16 0), .val (.int .i16 0)]]⟩)], 2⟩) ?_ (fun hS74 => ?_)
      · skip
        refine anyS_cons T0_ok hP hm hN (by rfl) [1, 6, 10, 13] (by rfl) rfl ?_
        refine ⟨⟨_, rfl, rfl, ?_⟩, ?_⟩
        · skip
          refine g1 ?_
          exact anyS_weak (st' := ⟨[(16, .ptr 1 0 0), (20, .ptr 1 1 0), (24, .ptr 1 2 0), (5, .own 1), (4, .val (.int .i64 0)), (3, .nil), (2, .ptr 0 0 0), (0, .val (.string s))], [(1, ⟨9, 1, false, strs (splP 32 s)⟩), (0, ⟨30, 3, true, [[.val (.int .i16 0), .val (.int .i16 0), .val (.int .i16 0)]]⟩)], 2⟩) (by exact weak_sl (sub_cons rfl (sub_cons rfl (sub_cons rfl (sub_cons rfl (sub_cons rfl (sub_cons rfl (sub_cons rfl (sub_cons rfl (sub_nil)))))))))) hS60
        refine ⟨⟨_, rfl, rfl, ?_⟩, ?_⟩
        · skip
          refine g1 ?_
          exact anyS_weak (st' := ⟨[(15, .own 1), (21, .val (.string ((splP 32 s).getD 1 baZ))), (24, .ptr 1 2 0), (5, .own 1), (4, .val (.int .i64 0)), (3, .nil), (2, .ptr 0 0 0), (0, .val (.string s))], [(1, ⟨9, 1, false, strs (splP 32 s)⟩), (0, ⟨30, 3, true, [[.val (.int .i16 0), .val (.int .i16 0), .val (.int .i16 0)]]⟩)], 2⟩) (by exact weak_sl (sub_cons rfl (sub_cons rfl (sub_cons rfl (sub_cons rfl (sub_cons rfl (sub_cons rfl (sub_cons rfl (sub_cons rfl (sub_nil)))))))))) hS64
        refine ⟨⟨_, rfl, rfl, ?_⟩, ?_⟩
        · skip
          refine g1 ?_
          exact anyS_weak (st' := ⟨[(15, .own 1), (20, .ptr 1 1 0), (25, .val (.string ((splP 32 s).getD 2 baZ))), (5, .own 1), (4, .val (.int .i64 0)), (3, .nil), (2, .ptr 0 0 0), (0, .val (.string s))], [(1, ⟨9, 1, false, strs (splP 32 s)⟩), (0, ⟨30, 3, true, [[.val (.int .i16 0), .val (.int .i16 0), .val (.int .i16 0)]]⟩)], 2⟩) (by exact weak_sl (sub_cons rfl (sub_cons rfl (sub_cons rfl (sub_cons rfl (sub_cons rfl (sub_cons rfl (sub_cons rfl (sub_cons rfl (sub_nil)))))))))) hS66
        refine ⟨⟨_, rfl, rfl, ?_⟩, trivial⟩
        refine g1 ?_
        exact anyS_weak (st' := ⟨[(15, .own 1), (20, .ptr 1 1 0), (24, .ptr 1 2 0), (6, .ptr 2 0 0), (5, .own 1), (4, .val (.int .i64 0)), (3, .nil), (2, .ptr 0 0 0), (0, .val (.string s))], [(2, ⟨30, 3, true, [[.val (.int .i16 0), .val (.int .i16 0), .val (.int .i16 0)]]⟩), (1, ⟨9, 1, false, strs (splP 32 s)⟩), (0, ⟨30, 3, true, [[.val (.int .i16 0), .val (.int .i16 0), .val (.int .i16 0)]]⟩)], 3⟩) (by exact weak_sl (sub_cons rfl (sub_cons rfl (sub_cons rfl (sub_cons rfl (sub_cons rfl (sub_cons rfl (sub_cons rfl (sub_cons rfl (sub_cons rfl (sub_nil))))))))))) hS67
      refine anyS_cut (fuel' := 10) (listed' := #[true, false, false, false, true, true, false, false, true, false, false, false, false, true, false]) (st' := ⟨[(15, .own 1), (20, .ptr 1 1 0), (23, .own 1), (6, .ptr 2 0 0), (5, .own 1), (4, .val (.int .i64 0)), (3, .nil), (2, .ptr 0 0 0), (0, .val (.string s))], [(2, ⟨30, 3, true, [[.val (.int .i16 0), .val (.int .i16 0), .val (.int .i16 0)]]⟩), (1, ⟨9, 1, false, strs (splP 32 s)⟩), (0, ⟨30, 3, true, [[.val (.int .i16 0), .val (.int .i16 0), .val (.int .i16 0)]]⟩)], 3⟩) ?_ (fun hS75 => ?_)
      · skip
        refine anyS_cons T0_ok hP hm hN (by rfl) [1, 6, 9] (by rfl) rfl ?_
        refine ⟨⟨_, rfl, rfl, ?_⟩, ?_⟩
        · skip
          refine g1 ?_
          exact anyS_weak (st' := ⟨[(16, .ptr 1 0 0), (20, .ptr 1 1 0), (23, .own 1), (6, .ptr 2 0 0), (5, .own 1), (4, .val (.int .i64 0)), (3, .nil), (2, .ptr 0 0 0), (0, .val (.string s))], [(2, ⟨30, 3, true, [[.val (.int .i16 0), .val (.int .i16 0), .val (.int .i16 0)]]⟩), (1, ⟨9, 1, false, strs (splP 32 s)⟩), (0, ⟨30, 3, true, [[.val (.int .i16 0), .val (.int .i16 0), .val (.int .i16 0)]]⟩)], 3⟩) (by exact weak_sl (sub_cons rfl (sub_cons rfl (sub_cons rfl (sub_cons rfl (sub_cons rfl (sub_cons rfl (sub_cons rfl (sub_cons rfl (sub_cons rfl (sub_nil))))))))))) hS61
        refine ⟨⟨_, rfl, rfl, ?_⟩, ?_⟩
        · skip
          refine g1 ?_
          exact anyS_weak (st' := ⟨[(15, .own 1), (21, .val (.string ((splP 32 s).getD 1 baZ))), (23, .own 1), (6, .ptr 2 0 0), (5, .own 1), (4, .val (.int .i64 0)), (3, .nil), (2, .ptr 0 0 0), (0, .val (.string s))], [(2, ⟨30, 3, true, [[.val (.int .i16 0), .val (.int .i16 0), .val (.int .i16 0)]]⟩), (1, ⟨9, 1, false, strs (splP 32 s)⟩), (0, ⟨30, 3, true, [[.val (.int .i16 0), .val (.int .i16 0), .val (.int .i16 0)]]⟩)], 3⟩) (by exact weak_sl (sub_cons rfl (sub_cons rfl (sub_cons rfl (sub_cons rfl (sub_cons rfl (sub_cons rfl (sub_cons rfl (sub_cons rfl (sub_cons rfl (sub_nil))))))))))) hS65
        refine ⟨⟨_, rfl, rfl, ?_⟩, trivial⟩
        refine g1 ?_
        exact anyS_weak (st' := ⟨[(15, .own 1), (20, .ptr 1 1 0), (24, .ptr 1 2 0), (6, .ptr 2 0 0), (5, .own 1), (4, .val (.int .i64 0)), (3, .nil), (2, .ptr 0 0 0), (0, .val (.string s))], [(2, ⟨30, 3, true, [[.val (.int .i16 0), .val (.int .i16 0), .val (.int .i16 0)]]⟩), (1, ⟨9, 1, false, strs (splP 32 s)⟩), (0, ⟨30, 3, true, [[.val (.int .i16 0), .val (.int .i16 0), .val (.int .i16 0)]]⟩)], 3⟩) (by exact weak_sl (sub_cons rfl (sub_cons rfl (sub_cons rfl (sub_cons rfl (sub_cons rfl (sub_cons rfl (sub_cons rfl (sub_cons rfl (sub_cons rfl (sub_nil))))))))))) hS67
      refine anyS_cut (fuel' := 10) (listed' := #[true, false, false, false, true, false, false, false, true, true, true, false, false, false, false]) (st' := ⟨[(15, .own 1), (19, .own 1), (25, .val (.string ((splP 32 s).getD 2 baZ))), (5, .own 1), (4, .val (.int .i64 0)), (3, .nil), (2, .ptr 0 0 0), (0, .val (.string s))], [(1, ⟨9, 1, false, strs (splP 32 s)⟩), (0, ⟨30, 3, true, [[.val (.int .i16 0), .val (.int .i16 0), .val (.int .i16 0)]]⟩)], 2⟩) ?_ (fun hS76 => ?_)
      · skip
        refine anyS_cons T0_ok hP hm hN (by rfl) [1, 5, 13] (by rfl) rfl ?_
        refine ⟨⟨_, rfl, rfl, ?_⟩, ?_⟩
        · skip
          refine g1 ?_
          exact anyS_weak (st' := ⟨[(16, .ptr 1 0 0), (19, .own 1), (25, .val (.string ((splP 32 s).getD 2 baZ))), (5, .own 1), (4, .val (.int .i64 0)), (3, .nil), (2, .ptr 0 0 0), (0, .val (.string s))], [(1, ⟨9, 1, false, strs (splP 32 s)⟩), (0, ⟨30, 3, true, [[.val (.int .i16 0), .val (.int .i16 0), .val (.int .i16 0)]]⟩)], 2⟩) (by exact weak_sl (sub_cons rfl (sub_cons rfl (sub_cons rfl (sub_cons rfl (sub_cons rfl (sub_cons rfl (sub_cons rfl (sub_cons rfl (sub_nil)))))))))) hS62
        refine ⟨⟨_, rfl, rfl, ?_⟩, ?_⟩
        · skip
          refine g1 ?_
          exact anyS_weak (st' := ⟨[(15, .own 1), (20, .ptr 1 1 0), (25, .val (.string ((splP 32 s).getD 2 baZ))), (5, .own 1), (4, .val (.int .i64 0)), (3, .nil), (2, .ptr 0 0 0), (0, .val (.string s))], [(1, ⟨9, 1, false, strs (splP 32 s)⟩), (0, ⟨30, 3, true, [[.val (.int .i16 0), .val (.int .i16 0), .val (.int .i16 0)]]⟩)], 2⟩) (by exact weak_sl (sub_cons rfl (sub_cons rfl (sub_cons rfl (sub_cons rfl (sub_cons rfl (sub_cons rfl (sub_cons rfl (sub_cons rfl (sub_nil)))))))))) hS66
        refine ⟨⟨_, rfl, rfl, ?_⟩, trivial⟩
        refine g1 ?_
        exact anyS_weak (st' := ⟨[(15, .own 1), (19, .own 1), (25, .val (.string ((splP 32 s).getD 2 baZ))), (6, .ptr 2 0 0), (5, .own 1), (4, .val (.int .i64 0)), (3, .nil), (2, .ptr 0 0 0), (0, .val (.string s))], [(2, ⟨30, 3, true, [[.val (.int .i16 0), .val (.int .i16 0), .val (.int .i16 0)]]⟩), (1, ⟨9, 1, false, strs (splP 32 s)⟩), (0, ⟨30, 3, true, [[.val (.int .i16 0), .val (.int .i16 0), .val (.int .i16 0)]]⟩)], 3⟩) (by exact weak_sl (sub_cons rfl (sub_cons rfl (sub_cons rfl (sub_cons rfl (sub_cons rfl (sub_cons rfl (sub_cons rfl (sub_cons rfl (sub_cons rfl (sub_nil))))))))))) hS68
      refine anyS_cut (fuel' := 10) (listed' := #[true, false, false, false, true, false, false, false, true, true, false, false, false, true, false]) (st' := ⟨[(15, .own 1), (19, .own 1), (24, .ptr 1 2 0), (6, .ptr 2 0 0), (5, .own 1), (4, .val (.int .i64 0)), (3, .nil), (2, .ptr 0 0 0), (0, .val (.string s))], [(2, ⟨30, 3, true, [[.val (.int .i16 0), .val (.int .i16 0), .val (.int .i16 0)]]⟩), (1, ⟨9, 1, false, strs (splP 32 s)⟩), (0, ⟨30, 3, true, [[.val (.int .i16 0), .val (.int .i16 0), .val (.int .i16 0)]]⟩)], 3⟩) ?_ (fun hS77 => ?_)
      · skip
        refine anyS_cons T0_ok hP hm hN (by rfl) [1, 5, 10] (by rfl) rfl ?_
        refine ⟨⟨_, rfl, rfl, ?_⟩, ?_⟩
        · skip
          refine g1 ?_
          exact anyS_weak (st' := ⟨[(16, .ptr 1 0 0), (19, .own 1), (24, .ptr 1 2 0), (6, .ptr 2 0 0), (5, .own 1), (4, .val (.int .i64 0)), (3, .nil), (2, .ptr 0 0 0), (0, .val (.string s))], [(2, ⟨30, 3, true, [[.val (.int .i16 0), .val (.int .i16 0), .val (.int .i16 0)]]⟩), (1, ⟨9, 1, false, strs (splP 32 s)⟩), (0, ⟨30, 3, true, [[.val (.int .i16 0), .val (.int .i16 0), .val (.int .i16 0)]]⟩)], 3⟩) (by exact weak_sl (sub_cons rfl (sub_cons rfl (sub_cons rfl (sub_cons rfl (sub_cons rfl (sub_cons rfl (sub_cons rfl (sub_cons rfl (sub_cons rfl (sub_nil))))))))))) hS63
        refine ⟨⟨_, rfl, rfl, ?_⟩, ?_⟩
        · skip
          refine g1 ?_
          exact anyS_weak (st' := ⟨[(15, .own 1), (20, .ptr 1 1 0), (24, .ptr 1 2 0), (6, .ptr 2 0 0), (5, .own 1), (4, .val (.int .i64 0)), (3, .nil), (2, .ptr 0 0 0), (0, .val (.string s))], [(2, ⟨30, 3, true, [[.val (.int .i16 0), .val (.int .i16 0), .val (.int .i16 0)]]⟩), (1, ⟨9, 1, false, strs (splP 32 s)⟩), (0, ⟨30, 3, true, [[.val (.int .i16 0), .val (.int .i16 0), .val (.int .i16 0)]]⟩)], 3⟩) (by exact weak_sl (sub_cons rfl (sub_cons rfl (sub_cons rfl (sub_cons rfl (sub_cons rfl (sub_cons rfl (sub_cons rfl (sub_cons rfl (sub_cons rfl (sub_nil))))))))))) hS67
        refine ⟨⟨_, rfl, rfl, ?_⟩, trivial⟩
        refine g1 ?_
        exact anyS_weak (st' := ⟨[(15, .own 1), (19, .own 1), (25, .val (.string ((splP 32 s).getD 2 baZ))), (6, .ptr 2 0 0), (5, .own 1), (4, .val (.int .i64 0)), (3, .nil), (2, .ptr 0 0 0), (0, .val (.string s))], [(2, ⟨30, 3, true, [[.val (.int .i16 0), .val (.int .i16 0), .val (.int .i16 0)]]⟩), (1, ⟨9, 1, false, strs (splP 32 s)⟩), (0, ⟨30, 3, true, [[.val (.int .i16 0), .val (.int .i16 0), .val (.int .i16 0)]]⟩)], 3⟩) (by exact weak_sl (sub_cons rfl (sub_cons rfl (sub_cons rfl (sub_cons rfl (sub_cons rfl (sub_cons rfl (sub_cons rfl (sub_cons rfl (sub_cons rfl (sub_nil))))))))))) hS68
      refine anyS_cut (fuel' := 11) (listed' := #[true, true, false, false, true, false, false, false, true, false, false, false, false, false, false]) (st' := ⟨[(16, .ptr 1 0 0), (19, .own 1), (23, .own 1), (5, .own 1), (4, .val (.int .i64 0)), (3, .nil), (2, .ptr 0 0 0), (0, .val (.string s))], [(1, ⟨9, 1, false, strs (splP 32 s)⟩), (0, ⟨30, 3, true, [[.val (.int .i16 0), .val (.int .i16 0), .val (.int .i16 0)]]⟩)], 2⟩) ?_ (fun hS78 => ?_)
      · skip
        refine anyS_cons T0_ok hP hm hN (by rfl) [2, 5, 9, 13] (by rfl) rfl ?_
        refine ⟨⟨_, rfl, rfl, ?_⟩, ?_⟩
        · skip
          refine g1 ?_
          exact anyS_weak (st' := ⟨[(17, .val (.string ((splP 32 s).getD 0 baZ))), (19, .own 1), (23, .own 1), (5, .own 1), (4, .val (.int .i64 0)), (3, .nil), (2, .ptr 0 0 0), (0, .val (.string s))], [(1, ⟨9, 1, false, strs (splP 32 s)⟩), (0, ⟨30, 3, true, [[.val (.int .i16 0), .val (.int .i16 0), .val (.int .i16 0)]]⟩)], 2⟩) (by exact weak_sl (sub_cons rfl (sub_cons rfl (sub_cons rfl (sub_cons rfl (sub_cons rfl (sub_cons rfl (sub_cons rfl (sub_cons rfl (sub_nil)))))))))) hS69
        refine ⟨⟨_, rfl, rfl, ?_⟩, ?_⟩
        · skip
          refine g1 ?_
          exact anyS_weak (st' := ⟨[(16, .ptr 1 0 0), (20, .ptr 1 1 0), (23, .own 1), (5, .own 1), (4, .val (.int .i64 0)), (3, .nil), (2, .ptr 0 0 0), (0, .val (.string s))], [(1, ⟨9, 1, false, strs (splP 32 s)⟩), (0, ⟨30, 3, true, [[.val (.int .i16 0), .val (.int .i16 0), .val (.int .i16 0)]]⟩)], 2⟩) (by exact weak_sl (sub_cons rfl (sub_cons rfl (sub_cons rfl (sub_cons rfl (sub_cons rfl (sub_cons rfl (sub_cons rfl (sub_cons rfl (sub_nil)))))))))) hS70
        refine ⟨⟨_, rfl, rfl, ?_⟩, ?_⟩
        · skip
          refine g1 ?_
          exact anyS_weak (st' := ⟨[(16, .ptr 1 0 0), (19, .own 1), (24, .ptr 1 2 0), (5, .own 1), (4, .val (.int .i64 0)), (3, .nil), (2, .ptr 0 0 0), (0, .val (.string s))], [(1, ⟨9, 1, false, strs (splP 32 s)⟩), (0, ⟨30, 3, true, [[.val (.int .i16 0), .val (.int .i16 0), .val (.int .i16 0)]]⟩)], 2⟩) (by exact weak_sl (sub_cons rfl (sub_cons rfl (sub_cons rfl (sub_cons rfl (sub_cons rfl (sub_cons rfl (sub_cons rfl (sub_cons rfl (sub_nil)))))))))) hS71
        refine ⟨⟨_, rfl, rfl, ?_⟩, trivial⟩
        refine g1 ?_
        exact anyS_weak (st' := ⟨[(16, .ptr 1 0 0), (19, .own 1), (23, .own 1), (6, .ptr 2 0 0), (5, .own 1), (4, .val (.int .i64 0)), (3, .nil), (2, .ptr 0 0 0), (0, .val (.string s))], [(2, ⟨30, 3, true, [[.val (.int .i16 0), .val (.int .i16 0), .val (.int .i16 0)]]⟩), (1, ⟨9, 1, false, strs (splP 32 s)⟩), (0, ⟨30, 3, true, [[.val (.int .i16 0), .val (.int .i16 0), .val (.int .i16 0)]]⟩)], 3⟩) (by exact weak_sl (sub_cons rfl (sub_cons rfl (sub_cons rfl (sub_cons rfl (sub_cons rfl (sub_cons rfl (sub_cons rfl (sub_cons rfl (sub_cons rfl (sub_nil))))))))))) hS72
      refine anyS_cut (fuel' := 11) (listed' := #[true, false, false, false, true, true, false, false, true, false, false, false, false, false, false]) (st' := ⟨[(15, .own 1), (20, .ptr 1 1 0), (23, .own 1), (5, .own 1), (4, .val (.int .i64 0)), (3, .nil), (2, .ptr 0 0 0), (0, .val (.string s))], [(1, ⟨9, 1, false, strs (splP 32 s)⟩), (0, ⟨30, 3, true, [[.val (.int .i16 0), .val (.int .i16 0), .val (.int .i16 0)]]⟩)], 2⟩) ?_ (fun hS79 => ?_)
      · skip
        refine anyS_cons T0_ok hP hm hN (by rfl) [1, 6, 9, 13] (by rfl) rfl ?_
        refine ⟨⟨_, rfl, rfl, ?_⟩, ?_⟩
        · skip
          refine g1 ?_
          exact anyS_weak (st' := ⟨[(16, .ptr 1 0 0), (20, .ptr 1 1 0), (23, .own 1), (5, .own 1), (4, .val (.int .i64 0)), (3, .nil), (2, .ptr 0 0 0), (0, .val (.string s))], [(1, ⟨9, 1, false, strs (splP 32 s)⟩), (0, ⟨30, 3, true, [[.val (.int .i16 0), .val (.int .i16 0), .val (.int .i16 0)]]⟩)], 2⟩) (by exact weak_sl (sub_cons rfl (sub_cons rfl (sub_cons rfl (sub_cons rfl (sub_cons rfl (sub_cons rfl (sub_cons rfl (sub_cons rfl (sub_nil)))))))))) hS70
        refine ⟨⟨_, rfl, rfl, ?_⟩, ?_⟩
        · skip
          refine g1 ?_
          exact anyS_weak (st' := ⟨[(15, .own 1), (21, .val (.string ((splP 32 s).getD 1 baZ))), (23, .own 1), (5, .own 1), (4, .val (.int .i64 0)), (3, .nil), (2, .ptr 0 0 0), (0, .val (.string s))], [(1, ⟨9, 1, false, strs (splP 32 s)⟩), (0, ⟨30, 3, true, [[.val (.int .i16 0), .val (.int .i16 0), .val (.int .i16 0)]]⟩)], 2⟩) (by exact weak_sl (sub_cons rfl (sub_cons rfl (sub_cons rfl (sub_cons rfl (sub_cons rfl (sub_cons rfl (sub_cons rfl (sub_cons rfl (sub_nil)))))))))) hS73
        refine ⟨⟨_, rfl, rfl, ?_⟩, ?_⟩
        · skip
          refine g1 ?_
          exact anyS_weak (st' := ⟨[(15, .own 1), (20, .ptr 1 1 0), (24, .ptr 1 2 0), (5, .own 1), (4, .val (.int .i64 0)), (3, .nil), (2, .ptr 0 0 0), (0, .val (.string s))], [(1, ⟨9, 1, false, strs (splP 32 s)⟩), (0, ⟨30, 3, true, [[.val (.int .i16 0), .val (.int .i16 0), .val (.int .i16 0)]]⟩)], 2⟩) (by exact weak_sl (sub_cons rfl (sub_cons rfl (sub_cons rfl (sub_cons rfl (sub_cons rfl (sub_cons rfl (sub_cons rfl (sub_cons rfl (sub_nil)))))))))) hS74
        refine ⟨⟨_, rfl, rfl, ?_⟩, trivial⟩
        refine g1 ?_
        exact anyS_weak (st' := ⟨[(15, .own 1), (20, .ptr 1 1 0), (23, .own 1), (6, .ptr 2 0 0), (5, .own 1), (4, .val (.int .i64 0)), (3, .nil), (2, .ptr 0 0 0), (0, .val (.string s))], [(2, ⟨30, 3, true, [[.val (.int .i16 0), .val (.int .i16 0), .val (.int .i16 0)]]⟩), (1, ⟨9, 1, false, strs (splP 32 s)⟩), (0, ⟨30, 3, true, [[.val (.int .i16 0), .val (.int .i16 0), .val (.int .i16 0)]]⟩)], 3⟩) (by exact weak_sl (sub_cons rfl (sub_cons rfl (sub_cons rfl (sub_cons rfl (sub_cons rfl (sub_cons rfl (sub_cons rfl (sub_cons rfl (sub_cons rfl (sub_nil))))))))))) hS75
      refine anyS_cut (fuel' := 11) (listed' := #[true, false, false, false, true, false, false, false, true, true, false, false, false, false, false]) (st' := ⟨[(15, .own 1), (19, .own 1), (24, .ptr 1 2 0), (5, .own 1), (4, .val (.int .i64 0)), (3, .nil), (2, .ptr 0 0 0), (0, .val (.string s))], [(1, ⟨9, 1, false, strs (splP 32 s)⟩), (0, ⟨30, 3, true, [[.val (.int .i16 0), .val (.int .i16 0), .val (.int .i16 0)]]⟩)], 2⟩) ?_ (fun hS80 => ?_)
      · skip
        refine anyS_cons T0_ok hP hm hN (by rfl) [1, 5, 10, 13] (by rfl) rfl ?_
        refine ⟨⟨_, rfl, rfl, ?_⟩, ?_⟩
        · skip
          refine g1 ?_
          exact anyS_weak (st' := ⟨[(16, .ptr 1 0 0), (19, .own 1), (24, .ptr 1 2 0), (5, .own 1), (4, .val (.int .i64 0)), (3, .nil), (2, .ptr 0 0 0), (0, .val (.string s))], [(1, ⟨9, 1, false, strs (splP 32 s)⟩), (0, ⟨30, 3, true, [[.val (.int .i16 0), .val (.int .i16 0), .val (.int .i16 0)]]⟩)], 2⟩) (by exact weak_sl (sub_cons rfl (sub_cons rfl (sub_cons rfl (sub_cons rfl (sub_cons rfl (sub_cons rfl (sub_cons rfl (sub_cons rfl (sub_nil)))))))))) hS71
        refine ⟨⟨_, rfl, rfl, ?_⟩, ?_⟩
        · skip
          refine g1 ?_
          exact anyS_weak (st' := ⟨[(15, .own 1), (20, .ptr 1 1 0), (24, .ptr 1 2 0), (5, .own 1), (4, .val (.int .i64 0)), (3, .nil), (2, .ptr 0 0 0), (0, .val (.string s))], [(1, ⟨9, 1, false, strs (splP 32 s)⟩), (0, ⟨30, 3, true, [[.val (.int .i16 0), .val (.int .i16 0), .val (.int .i16 0)]]⟩)], 2⟩) (by exact weak_sl (sub_cons rfl (sub_cons rfl (sub_cons rfl (sub_cons rfl (sub_cons rfl (sub_cons rfl (sub_cons rfl (sub_cons rfl (sub_nil)))))))))) hS74
        refine ⟨⟨_, rfl, rfl, ?_⟩, ?_⟩
        · skip
          refine g1 ?_
          exact anyS_weak (st' := ⟨[(15, .own 1), (19, .own 1), (25, .val (.string ((splP 32 s).getD 2 baZ))), (5, .own 1), (4, .val (.int .i64 0)), (3, .nil), (2, .ptr 0 0 0), (0, .val (.string s))], [(1, ⟨9, 1, false, strs (splP 32 s)⟩), (0, ⟨30, 3, true, [[.val (.int .i16 0), .val (.int .i16 0), .val (.int .i16 0)]]⟩)], 2⟩) (by exact weak_sl (sub_cons rfl (sub_cons rfl (sub_cons rfl (sub_cons rfl (sub_cons rfl (sub_cons rfl (sub_cons rfl (sub_cons rfl (sub_nil)))))))))) hS76
        refine ⟨⟨_, rfl, rfl, ?_⟩, trivial⟩
        refine g1 ?_
        exact anyS_weak (st' := ⟨[(15, .own 1), (19, .own 1), (24, .ptr 1 2 0), (6, .ptr 2 0 0), (5, .own 1), (4, .val (.int .i64 0)), (3, .nil), (2, .ptr 0 0 0), (0, .val (.string s))], [(2, ⟨30, 3, true, [[.val (.int .i16 0), .val (.int .i16 0), .val (.int .i16 0)]]⟩), (1, ⟨9, 1, false, strs (splP 32 s)⟩), (0, ⟨30, 3, true, [[.val (.int .i16 0), .val (.int .i16 0), .val (.int .i16 0)]]⟩)], 3⟩) (by exact weak_sl (sub_cons rfl (sub_cons rfl (sub_cons rfl (sub_cons rfl (sub_cons rfl (sub_cons rfl (sub_cons rfl (sub_cons rfl (sub_cons rfl (sub_nil))))))))))) hS77
      refine anyS_cut (fuel' := 11) (listed' := #[true, false, false, false, true, false, false, false, true, false, false, false, false, true, false]) (st' := ⟨[(15, .own 1), (19, .own 1), (23, .own 1), (6, .ptr 2 0 0), (5, .own 1), (4, .val (.int .i64 0)), (3, .nil), (2, .ptr 0 0 0), (0, .val (.string s))], [(2, ⟨30, 3, true, [[.val (.int .i16 0), .val (.int .i16 0), .val (.int .i16 0)]]⟩), (1, ⟨9, 1, false, strs (splP 32 s)⟩), (0, ⟨30, 3, true, [[.val (.int .i16 0), .val (.int .i16 0), .val (.int .i16 0)]]⟩)], 3⟩) ?_ (fun hS81 => ?_)
      · skip
        refine anyS_cons T0_ok hP hm hN (by rfl) [1, 5, 9] (by rfl) rfl ?_
        refine ⟨⟨_, rfl, rfl, ?_⟩, ?_⟩
        · skip
          refine g1 ?_
          exact anyS_weak (st' := ⟨[(16, .ptr 1 0 0), (19, .own 1), (23, .own 1), (6, .ptr 2 0 0), (5, .own 1), (4, .val (.int .i64 0)), (3, .nil), (2, .ptr 0 0 0), (0, .val (.string s))], [(2, ⟨30, 3, true, [[.val (.int .i16 0), .val (.int .i16 0), .val (.int .i16 0)]]⟩), (1, ⟨9, 1, false, strs (splP 32 s)⟩), (0, ⟨30, 3, true, [[.val (.int .i16 0), .val (.int .i16 0), .val (.int .i16 0)]]⟩)], 3⟩) (by exact weak_sl (sub_cons rfl (sub_cons rfl (sub_cons rfl (sub_cons rfl (sub_cons rfl (sub_cons rfl (sub_cons rfl (sub_cons rfl (sub_cons rfl (sub_nil))))))))))) hS72
        refine ⟨⟨_, rfl, rfl, ?_⟩, ?_⟩
        · skip
          refine g1 ?_
          exact anyS_weak (st' := ⟨[(15, .own 1), (20, .ptr 1 1 0), (23, .own 1), (6, .ptr 2 0 0), (5, .own 1), (4, .val (.int .i64 0)), (3, .nil), (2, .ptr 0 0 0), (0, .val (.string s))], [(2, ⟨30, 3, true, [[.val (.int .i16 0), .val (.int .i16 0), .val (.int .i16 0)]]⟩), (1, ⟨9, 1, false, strs (splP 32 s)⟩), (0, ⟨30, 3, true, [[.val (.int .i16 0), .val (.int .i16 0), .val (.int .i16 0)]]⟩)], 3⟩) (by exact weak_sl (sub_cons rfl (sub_cons rfl (sub_cons rfl (sub_cons rfl (sub_cons rfl (sub_cons rfl (sub_cons rfl (sub_cons rfl (sub_cons rfl (sub_nil))))))))))) hS75
        refine ⟨⟨_, rfl, rfl, ?_⟩, trivial⟩
        refine g1 ?_
        exact anyS_weak (st' := ⟨[(15, .own 1), (19, .own 1), (24, .ptr 1 2 0), (6, .ptr 2 0 0), (5, .own 1), (4, .val (.int .i64 0)), (3, .nil), (2, .ptr 0 0 0), (0, .val (.string s))], [(2, ⟨30, 3, true, [[.val (.int .i16 0), .val (.int .i16 0), .val (.int .i16 0)]]⟩), (1, ⟨9, 1, false, strs (splP 32 s)⟩), (0, ⟨30, 3, true, [[.val (.int .i16 0), .val (.int .i16 0), .val (.int .i16 0)]]⟩)], 3⟩) (by exact weak_sl (sub_cons rfl (sub_cons rfl (sub_cons rfl (sub_cons rfl (sub_cons rfl (sub_cons rfl (sub_cons rfl (sub_cons rfl (sub_cons rfl (sub_nil))))))))))) hS77
      refine anyS_cut (fuel' := 12) (listed' := #[true, false, false, false, true, false, false, false, true, false, false, false, false, false, false]) (st' := ⟨[(15, .own 1), (19, .own 1), (23, .own 1), (5, .own 1), (4, .val (.int .i64 0)), (3, .nil), (2, .ptr 0 0 0), (0, .val (.string s))], [(1, ⟨9, 1, false, strs (splP 32 s)⟩), (0, ⟨30, 3, true, [[.val (.int .i16 0), .val (.int .i16 0), .val (.int .i16 0)]]⟩)], 2⟩) ?_ (fun hS82 => ?_)
      · skip
        refine anyS_cons T0_ok hP hm hN (by rfl) [1, 5, 9, 13] (by rfl) rfl ?_
        refine ⟨⟨_, rfl, rfl, ?_⟩, ?_⟩
        · skip
          refine g1 ?_
          exact anyS_weak (st' := ⟨[(16, .ptr 1 0 0), (19, .own 1), (23, .own 1), (5, .own 1), (4, .val (.int .i64 0)), (3, .nil), (2, .ptr 0 0 0), (0, .val (.string s))], [(1, ⟨9, 1, false, strs (splP 32 s)⟩), (0, ⟨30, 3, true, [[.val (.int .i16 0), .val (.int .i16 0), .val (.int .i16 0)]]⟩)], 2⟩) (by exact weak_sl (sub_cons rfl (sub_cons rfl (sub_cons rfl (sub_cons rfl (sub_cons rfl (sub_cons rfl (sub_cons rfl (sub_cons rfl (sub_nil)))))))))) hS78
        refine ⟨⟨_, rfl, rfl, ?_⟩, ?_⟩
        · skip
          refine g1 ?_
          exact anyS_weak (st' := ⟨[(15, .own 1), (20, .ptr 1 1 0), (23, .own 1), (5, .own 1), (4, .val (.int .i64 0)), (3, .nil), (2, .ptr 0 0 0), (0, .val (.string s))], [(1, ⟨9, 1, false, strs (splP 32 s)⟩), (0, ⟨30, 3, true, [[.val (.int .i16 0), .val (.int .i16 0), .val (.int .i16 0)]]⟩)], 2⟩) (by exact weak_sl (sub_cons rfl (sub_cons rfl (sub_cons rfl (sub_cons rfl (sub_cons rfl (sub_cons rfl (sub_cons rfl (sub_cons rfl (sub_nil)))))))))) hS79
        refine ⟨⟨_, rfl, rfl, ?_⟩, ?_⟩
        · skip
          refine g1 ?_
          exact anyS_weak (st' := ⟨[(15, .own 1), (19, .own 1), (24, .ptr 1 2 0), (5, .own 1), (4, .val (.int .i64 0)), (3, .nil), (2, .ptr 0 0 0), (0, .val (.string s))], [(1, ⟨9, 1, false, strs (splP 32 s)⟩), (0, ⟨30, 3, true, [[.val (.int .i16 0), .val (.int .i16 0), .val (.int .i16 0)]]⟩)], 2⟩) (by exact weak_sl (sub_cons rfl (sub_cons rfl (sub_cons rfl (sub_cons rfl (sub_cons rfl (sub_cons rfl (sub_cons rfl (sub_cons rfl (sub_nil)))))))))) hS80
        refine ⟨⟨_, rfl, rfl, ?_⟩, trivial⟩
        refine g1 ?_
        exact anyS_weak (st' := ⟨[(15, .own 1), (19, .own 1), (23, .own 1), (6, .ptr 2 0 0), (5, .own 1), (4, .val (.int .i64 0)), (3, .nil), (2, .ptr 0 0 0), (0, .val (.string s))], [(2, ⟨30, 3, true, [[.val (.int .i16 0), .val (.int .i16 0), .val (.int .i16 0)]]⟩), (1, ⟨9, 1, false, strs (splP 32 s)⟩), (0, ⟨30, 3, true, [[.val (.int .i16 0), .val (.int .i16 0), .val (.int .i16 0)]]⟩)], 3⟩) (by exact weak_sl (sub_cons rfl (sub_cons rfl (sub_cons rfl (sub_cons rfl (sub_cons rfl (sub_cons rfl (sub_cons rfl (sub_cons rfl (sub_cons rfl (sub_nil))))))))))) hS81
      refine anyS_float T0_ok hP hm hN (by rfl) 0 rfl rfl rfl (by rfl) (by rfl) (by rfl) ?_
      refine g1 ?_
      refine anyS_float T0_ok hP hm hN (by rfl) 4 rfl rfl rfl (by rfl) (by rfl) (by rfl) ?_
      refine g1 ?_
      refine anyS_float T0_ok hP hm hN (by rfl) 8 rfl rfl rfl (by rfl) (by rfl) (by rfl) ?_
      refine g1 ?_
      exact anyS_weak (st' := ⟨[(15, .own 1), (19, .own 1), (23, .own 1), (5, .own 1), (4, .val (.int .i64 0)), (3, .nil), (2, .ptr 0 0 0), (0, .val (.string s))], [(1, ⟨9, 1, false, strs (splP 32 s)⟩), (0, ⟨30, 3, true, [[.val (.int .i16 0), .val (.int .i16 0), .val (.int .i16 0)]]⟩)], 2⟩) (by exact weak_sl (sub_cons rfl (sub_cons rfl (sub_cons rfl (sub_cons rfl (sub_cons rfl (sub_cons rfl (sub_cons rfl (sub_cons rfl (sub_nil)))))))))) hS82
    · skip
      refine awp_seq ?_
      refine r1 T0_ok hP hm hN ?_
      refine g1 ?_
      refine g1 ?_
      refine gc1 ?_ (call1 ok_I_each_string_int64 ((splP 32 s).drop 3, .val (.func (.func 29) #[] #[]), shW) [] (hargs := (by exact args_cons ⟨by simp, _, rfl, rfl, rfl, drop_strs _ _ (by simp)⟩ (args_cons (by first | exact rfl | exact ⟨rfl, rfl, rfl⟩) args_nil))) (hpre := by (try dsimp only); exact ⟨by rw [List.length_drop]; omega, rfl, does_shW (fun w hw => by have := splP_sz (List.mem_of_mem_drop hw); omega)⟩) (hfo := by intro o ho; simp only [List.nil_append, List.mem_singleton] at ho; subst ho; exact flat_i64s _ _ _ _))
      refine g1 ?_
      refine awp_seq ?_
      refine awp_seq ?_
      refine r1 T0_ok hP hm hN ?_
      refine g1 ?_
      refine g1 ?_
      refine gc1 ?_ (call1 ok_I_ValidHeights (((shW ((splP 32 s).getD 0 baZ)), (shW ((splP 32 s).getD 1 baZ)), (shW ((splP 32 s).getD 2 baZ))), (((splP 32 s).drop 3).map shW)) [] (hpre := by (try dsimp only); exact ⟨hpg, by simp; omega⟩))
      refine g1 ?_
      refine g1 ?_
      refine gg1 ?_
      refine gg1 ?_
      refine ggc1 ?_ (hs := by intro hb; simp +decide only [hb, gd_tt, gd_ff, beq_self_eq_true, Bool.true_and, beq_true]; exact ⟨rfl, _, call1 ok_I_heightsText (((shW ((splP 32 s).getD 0 baZ)), (shW ((splP 32 s).getD 1 baZ)), (shW ((splP 32 s).getD 2 baZ))), (((splP 32 s).drop 3).map shW)) [] (hpre := by (try dsimp only); exact valid_in4 (by simpa using hb)), rfl, rfl, rfl⟩)
      refine gg1 ?_
      refine gg1 ?_
      refine g1 ?_
      refine awp_cond rfl (fun hc1 => ?_) (fun hc1 => ?_)
      · skip
        have hr : rhI s = badH := by rw [hrc, if_neg]; intro h; rw [Bool.and_eq_true] at h; obtain ⟨h1, h2⟩ := h; simp at h1 h2 hc1; exact hc1.elim (fun h3 => by rw [h3] at h1; cases h1) (fun h3 => h3 h2)
        refine awp_seq ?_
        refine r1 T0_ok hP hm hN ?_
        refine g1 ?_
        refine g1 ?_
        refine g1 ?_
        refine g1 ?_
        refine awp_weak (weak_nil 3 2 1 rfl) ?_
        refine awp_ret ?_
        refine fin_mk [4] rfl rfl ?_ (by simp only [hr]; exact objs_cons rfl rfl rfl rfl rfl (.inl rfl) objs_nil) (by decide)
        show D.tup [.val (.agg #[.int .i16 (rhI s).1.1, .int .i16 (rhI s).1.2.1, .int .i16 (rhI s).1.2.2]), .own 4, .val (.int .i64 (rhI s).2.2)] = _
        rw [hr]
        rfl
      · skip
        have hr : rhI s = (((shW ((splP 32 s).getD 0 baZ)), (shW ((splP 32 s).getD 1 baZ)), (shW ((splP 32 s).getD 2 baZ))), (((splP 32 s).drop 3).map shW), 0) := by rw [hrc, if_pos]; rw [Bool.and_eq_true]; simp at hc1 ⊢; exact hc1
        refine awp_skip ?_
        refine awp_seq ?_
        refine r1 T0_ok hP hm hN ?_
        refine g1 ?_
        refine g1 ?_
        refine g1 ?_
        refine g1 ?_
        refine g1 ?_
        refine awp_ret ?_
        refine fin_mk [3] rfl rfl ?_ (by simp only [hr]; exact objs_cons rfl rfl rfl rfl rfl (.inl rfl) objs_nil) (by decide)
        show D.tup [.val (.agg #[.int .i16 (rhI s).1.1, .int .i16 (rhI s).1.2.1, .int .i16 (rhI s).1.2.2]), .own 3, .val (.int .i64 (rhI s).2.2)] = _
        rw [hr]
        rfl
end Go.Proofs.YtoincpeodnmfmaaDoor.Abs
