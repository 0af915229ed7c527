import Derived.Test.YtoincpeodnmfmaaDoorR5
set_option linter.unusedVariables false
set_option linter.unusedSimpArgs false
namespace Go.Proofs.YtoincpeodnmfmaaDoor.Abs
open Go Go.RowKit
theorem readS_len (l : Bs) : (readS l).1.length ≤ l.length + 1 := by
  have := spl_len 32 l
  unfold readS
  (repeat' split) <;> simp <;> omega
theorem readI_len (l : Bs) : (readI l).1.length ≤ l.length + 1 := by rw [read_same]; exact readS_len l

noncomputable abbrev s_L_FnExactReadMoves : Spec (ByteArray) where
  args := fun x => [.val (.string x)]
  pre := fun x => (x.size ≤ maxLen)
  res := fun x => .val (.bool true)

set_option maxRecDepth 20000 in
set_option maxHeartbeats 8000000 in
theorem ok_L_FnExactReadMoves : FnOk Pr 3 s_L_FnExactReadMoves := by
  refine fn_ok 1 0 T0_ok Go.Proofs.Tryd.func3 rfl (enters_of Go.Proofs.Tryd.func3 rfl rfl) (fun _ => rfl) (fun _ => rfl) (fun _ => rfl) ?_
  rintro s hl0 C hP hN hm hG
  change awp C _ _ ⟨[(0, .val (.string s))], [], 0⟩
  have hsl : s.size = s.data.toList.length := rfl
  have hn1 := readS_len s.data.toList
  have hn2 := readI_len s.data.toList
  refine awp_seq ?_
  refine r1 T0_ok hP hm hN ?_
  refine g1 ?_
  refine awp_seq ?_
  refine awp_seq ?_
  refine r1 T0_ok hP hm hN ?_
  refine g1 ?_
  refine g1 ?_
  refine g1 ?_
  refine awp_cond rfl (fun hc0 => ?_) (fun hc0 => ?_)
  · skip
    refine awp_seq ?_
    refine r1 T0_ok hP hm hN ?_
    refine g1 ?_
    refine awp_ret ?_
    refine fin_mk [] rfl rfl ?_ trivial (by decide)
    rfl
  · skip
    have hl : s.size ≤ 1048576 := by simp at hc0; omega
    refine awp_skip ?_
    refine awp_seq ?_
    refine r1 T0_ok hP hm hN ?_
    refine g1 ?_
    refine gc1 ?_ (call1 ok_S_ReadMoves s [] (hpre := by (try dsimp only); exact hl) (hfo := by intro o ho; simp only [List.nil_append, List.mem_singleton] at ho; subst ho; exact flat_mvs _ _ _ _))
    refine g1 ?_
    refine g1 ?_
    refine g1 ?_
    refine g1 ?_
    refine g1 ?_
    refine awp_seq ?_
    refine r1 T0_ok hP hm hN ?_
    refine g1 ?_
    refine gc1 ?_ (call1 ok_I_ReadMoves s [] (hpre := by (try dsimp only); exact hl) (hfo := by intro o ho; simp only [List.nil_append, List.mem_singleton] at ho; subst ho; exact flat_mvs _ _ _ _))
    refine g1 ?_
    refine g1 ?_
    refine g1 ?_
    refine g1 ?_
    refine g1 ?_
    refine awp_seq ?_
    refine awp_seq ?_
    refine r1 T0_ok hP hm hN ?_
    refine g1 ?_
    refine g1 ?_
    refine gc1 ?_ (call1 ok_L_eqMoveS ((readI s.data.toList).1, (readS s.data.toList).1) [] (hpre := by (try dsimp only); exact ⟨by omega, by omega⟩))
    refine g1 ?_
    refine g1 ?_
    refine gg1 ?_
    refine gg1 ?_
    refine gg1 ?_
    refine g1 ?_
    refine awp_cond rfl (fun hc1 => ?_) (fun hc1 => ?_)
    · skip
      exfalso; first | (simp [ask] at hc1; done) | (simp [ask] at hc1; omega) | (rw [read_same] at hc1; simp [ask] at hc1; done) | (rw [read_same] at hc1; simp [ask] at hc1; omega)
    · skip
      refine awp_skip ?_
      refine awp_seq ?_
      refine r1 T0_ok hP hm hN ?_
      refine g1 ?_
      refine awp_seq ?_
      refine r1 T0_ok hP hm hN ?_
      refine g1 ?_
      refine g1 ?_
      refine gc1 ?_ (call1 ok_L_markMoveS ((readI s.data.toList).1, _) [1] (hpre := by (try dsimp only); exact ⟨by omega, by omega, by omega⟩) (hfo := by intro o ho; first | cases ho; done | (simp only [List.mem_append, List.mem_cons, List.not_mem_nil, or_false, false_or] at ho; (try rcases ho with rfl | rfl); (try subst ho); exact flat_mvs _ _ _ _) | (simp only [List.nil_append, List.mem_singleton] at ho; subst ho; exact flat_mvs _ _ _ _)))
      refine g1 ?_
      refine awp_seq ?_
      refine r1 T0_ok hP hm hN ?_
      refine g1 ?_
      refine awp_seq ?_
      refine r1 T0_ok hP hm hN ?_
      refine g1 ?_
      refine g1 ?_
      refine gc1 ?_ (call1 ok_L_heldMoveS (mkd_move (readI s.data.toList).1.length 1, _) [] (hpre := by (try dsimp only); exact ⟨by rw [mkd_move_len]; omega, by omega, by rw [mkd_move_len]; omega⟩)) (hst := by simp +decide (disch := omega) only [nrm, lk_nrm, dc_nrm, mk_nrm, mf_nrm, ti_nrm, ls_nrm, mp_nrm, nb_nrm, hset, pick_and, pick_or, ↓reduceIte, Nat.reduceAdd, wI64, wI32, wI16, wI8, wU8, List.length_map, Int.toNat_natCast, heldR_move_mkd]; rfl)
      refine g1 ?_
      refine awp_seq ?_
      refine awp_seq ?_
      refine r1 T0_ok hP hm hN ?_
      refine g1 ?_
      refine g1 ?_
      refine awp_cond rfl (fun hc2 => ?_) (fun hc2 => ?_)
      · skip
        exfalso; first | (simp [ask] at hc2; done) | (simp [ask] at hc2; omega) | (rw [read_same] at hc2; simp [ask] at hc2; done) | (rw [read_same] at hc2; simp [ask] at hc2; omega)
      · skip
        refine awp_skip ?_
        refine awp_seq ?_
        refine awp_seq ?_
        refine r1 T0_ok hP hm hN ?_
        refine g1 ?_
        refine g1 ?_
        refine g1 ?_
        refine awp_cond rfl (fun hc3 => ?_) (fun hc3 => ?_)
        · skip
          exfalso; first | (simp [ask] at hc3; done) | (simp [ask] at hc3; omega) | (rw [read_same] at hc3; simp [ask] at hc3; done) | (rw [read_same] at hc3; simp [ask] at hc3; omega)
        · skip
          refine awp_skip ?_
          refine awp_seq ?_
          refine r1 T0_ok hP hm hN ?_
          refine g1 ?_
          refine gc1 ?_ (call1 ok_I_ReadMoves s [] (hpre := by (try dsimp only); exact hl) (hfo := by intro o ho; simp only [List.nil_append, List.mem_singleton] at ho; subst ho; exact flat_mvs _ _ _ _))
          refine g1 ?_
          refine g1 ?_
          refine g1 ?_
          refine g1 ?_
          refine g1 ?_
          refine awp_seq ?_
          refine awp_seq ?_
          refine r1 T0_ok hP hm hN ?_
          refine g1 ?_
          refine g1 ?_
          refine gc1 ?_ (call1 ok_L_eqMoveS ((readI s.data.toList).1, (readS s.data.toList).1) [] (hpre := by (try dsimp only); exact ⟨by omega, by omega⟩))
          refine g1 ?_
          refine g1 ?_
          refine gg1 ?_
          refine gg1 ?_
          refine gg1 ?_
          refine g1 ?_
          refine awp_cond rfl (fun hc4 => ?_) (fun hc4 => ?_)
          · skip
            exfalso; first | (simp [ask] at hc4; done) | (simp [ask] at hc4; omega) | (rw [read_same] at hc4; simp [ask] at hc4; done) | (rw [read_same] at hc4; simp [ask] at hc4; omega)
          · skip
            refine awp_skip ?_
            refine awp_seq ?_
            refine r1 T0_ok hP hm hN ?_
            refine g1 ?_
            refine awp_seq ?_
            refine r1 T0_ok hP hm hN ?_
            refine g1 ?_
            refine g1 ?_
            refine gc1 ?_ (call1 ok_L_heldMoveS (mkd_move (readI s.data.toList).1.length 1, _) [] (hpre := by (try dsimp only); exact ⟨by rw [mkd_move_len]; omega, by omega, by rw [mkd_move_len]; omega⟩)) (hst := by simp +decide (disch := omega) only [nrm, lk_nrm, dc_nrm, mk_nrm, mf_nrm, ti_nrm, ls_nrm, mp_nrm, nb_nrm, hset, pick_and, pick_or, ↓reduceIte, Nat.reduceAdd, wI64, wI32, wI16, wI8, wU8, List.length_map, Int.toNat_natCast, heldR_move_mkd]; rfl)
            refine g1 ?_
            refine awp_seq ?_
            refine awp_seq ?_
            refine r1 T0_ok hP hm hN ?_
            refine g1 ?_
            refine g1 ?_
            refine awp_cond rfl (fun hc5 => ?_) (fun hc5 => ?_)
            · skip
              exfalso; first | (simp [ask] at hc5; done) | (simp [ask] at hc5; omega) | (rw [read_same] at hc5; simp [ask] at hc5; done) | (rw [read_same] at hc5; simp [ask] at hc5; omega)
            · skip
              refine awp_skip ?_
              refine awp_seq ?_
              refine awp_seq ?_
              refine r1 T0_ok hP hm hN ?_
              refine g1 ?_
              refine g1 ?_
              refine g1 ?_
              refine awp_cond rfl (fun hc6 => ?_) (fun hc6 => ?_)
              · skip
                exfalso; first | (simp [ask] at hc6; done) | (simp [ask] at hc6; omega) | (rw [read_same] at hc6; simp [ask] at hc6; done) | (rw [read_same] at hc6; simp [ask] at hc6; omega)
              · skip
                refine awp_skip ?_
                refine awp_seq ?_
                refine r1 T0_ok hP hm hN ?_
                refine g1 ?_
                refine awp_ret ?_
                refine fin_mk [] rfl rfl ?_ trivial (by decide)
                rfl
end Go.Proofs.YtoincpeodnmfmaaDoor.Abs
