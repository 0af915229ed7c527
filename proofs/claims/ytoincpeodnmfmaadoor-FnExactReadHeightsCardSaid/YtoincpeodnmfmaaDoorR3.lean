import Derived.Test.YtoincpeodnmfmaaDoorR2
set_option linter.unusedVariables false
set_option linter.unusedSimpArgs false
namespace Go.Proofs.YtoincpeodnmfmaaDoor.Abs
open Go Go.RowKit
noncomputable abbrev s_S_l01Split : Spec (ByteArray × UInt8) where
  args := fun x => [.val (.string x.1), .val (.int .u8 (x.2.toNat : Int))]
  pre := fun x => x.1.size ≤ 1048576
  new := fun x => [⟨9, 1, false, strs (splP x.2 x.1)⟩]
  res := fun _ => .own 0

set_option maxRecDepth 20000 in
set_option maxHeartbeats 4000000 in
theorem ok_S_l01Split : FnOk Pr 16 s_S_l01Split := by
  refine fn_ok 2 0 T0_ok Go.Proofs.Tryd.func16 rfl (enters_of Go.Proofs.Tryd.func16 rfl rfl) (fun _ => rfl) (fun _ => rfl) (fun _ => rfl) ?_
  rintro ⟨s, c⟩ hs C hP hN hm hG
  change awp C _ _ ⟨[(0, .val (.string s)), (1, .val (.int .u8 (c.toNat : Int)))], [], 0⟩
  have hs : s.size ≤ 1048576 := hs
  have hsl : s.size = s.data.toList.length := rfl
  refine awp_seq ?_
  refine r1 T0_ok hP hm hN ?_
  refine g1 ?_
  refine awp_seq ?_
  refine r1 T0_ok hP hm hN ?_
  refine g1 ?_
  refine g1 ?_
  refine awp_seq ?_
  refine r1 T0_ok hP hm hN ?_
  refine g1 ?_
  refine awp_seq ?_
  refine awp_seq ?_
  refine r1 T0_ok hP hm hN ?_
  refine g1 ?_
  refine awp_block ?_
  refine awp_loop (fun n st => ∃ i : Nat, i ≤ s.size ∧ n = s.size - i ∧ st = ⟨[(7, .val (.int .i64 (i : Nat))), (6, .val (.int .i64 (((sF s c i).2 : Nat) : Int))), (5, .own 0), (0, .val (.string s)), (1, .val (.int .u8 (c.toNat : Int)))], [(0, ⟨9, 1, false, strs (sF s c i).1⟩)], 1⟩) (s.size) ⟨_, weak_sl (sub_cons rfl (sub_cons rfl (sub_cons rfl (sub_cons rfl (sub_cons rfl (sub_nil)))))), 0, by omega, rfl, rfl⟩ ?_
  rintro n st ⟨i, hii, hni, rfl⟩
  refine awp_seq ?_
  refine awp_seq ?_
  refine r1 T0_ok hP hm hN ?_
  refine g1 ?_
  refine g1 ?_
  refine g1 ?_
  refine g1 ?_
  refine awp_cond rfl (fun hc0 => ?_) (fun hc0 => ?_)
  · skip
    have hlti : i < s.size := by simpa using hc0
    obtain ⟨hb1, _, _, hb4⟩ := sF_inv s c i (by omega)
    refine awp_skip ?_
    refine awp_seq ?_
    refine awp_block ?_
    refine awp_seq ?_
    refine r1 T0_ok hP hm hN ?_
    refine g1 ?_
    refine g1 ?_
    refine g1 ?_
    refine g1 ?_
    refine g1 ?_
    refine awp_cond rfl (fun hc1 => ?_) (fun hc1 => ?_)
    · skip
      have he : s.data.toList.getD i 0 = c := by have h := hc1; simp only [beq_iff_eq] at h; exact UInt8.toNat_inj.1 (by omega)
      have hst : sF s c (i + 1) = ((sF s c i).1 ++ [s.extract (sF s c i).2 i], i + 1) := by rw [sF, if_pos he]
      refine awp_seq ?_
      refine r1 T0_ok hP hm hN ?_
      refine g1 ?_
      refine g1 ?_
      refine g1 ?_
      refine g1 ?_
      refine g1 ?_
      refine g1 ?_
      refine ga1 ?_
      refine g1 ?_
      refine r1 T0_ok hP hm hN ?_
      refine g1 ?_
      refine g1 ?_
      refine g1 ?_
      refine r1 T0_ok hP hm hN ?_
      refine g1 ?_
      refine g1 ?_
      refine g1 ?_
      refine ⟨s.size - (i + 1), _, by omega, (by rw [hst]; (try simp only [strs_app]); exact Weak.trans (weak_drop 1) (Weak.trans (weak_nx (nx' := 1) (by omega) (by rfl)) (weak_sl (sub_cons rfl (sub_cons rfl (sub_cons rfl (sub_cons rfl (sub_cons rfl (sub_nil))))))))), i + 1, by omega, rfl, rfl⟩
    · skip
      have he : ¬ s.data.toList.getD i 0 = c := fun e => by have h := hc1; rw [← e] at h; simp at h
      have hst : sF s c (i + 1) = sF s c i := by rw [sF, if_neg he]
      refine awp_skip ?_
      refine r1 T0_ok hP hm hN ?_
      refine g1 ?_
      refine g1 ?_
      refine g1 ?_
      refine ⟨s.size - (i + 1), _, by omega, (by rw [hst]; (try simp only [strs_app]); exact Weak.trans (weak_drop 1) (Weak.trans (weak_nx (nx' := 1) (by omega) (by rfl)) (weak_sl (sub_cons rfl (sub_cons rfl (sub_cons rfl (sub_cons rfl (sub_cons rfl (sub_nil))))))))), i + 1, by omega, rfl, rfl⟩
  · skip
    have hge0 : ¬ i < s.size := by simpa using hc0
    have heqi : i = s.size := by omega
    obtain ⟨hb1, _, _, hb4⟩ := sF_inv s c i (by omega)
    rw [heqi] at hb1 hb4 ⊢
    refine awp_exit ?_
    repeat refine thenA_exit ?_
    refine blockA_hit ?_
    refine awp_seq ?_
    refine r1 T0_ok hP hm hN ?_
    refine g1 ?_
    refine g1 ?_
    refine g1 ?_
    refine g1 ?_
    refine g1 ?_
    refine ga1 ?_
    refine g1 ?_
    refine awp_ret ?_
    refine fin_mk [0] rfl rfl ?_ (by show Objs _ _ [(⟨9, 1, false, strs (splP c s)⟩ : Ob)]; rw [show strs (splP c s) = strs (sF s c s.size).1 ++ strs [s.extract (sF s c s.size).2 s.size] by rw [← strs_app, sF_all]]; exact objs_cons rfl rfl rfl rfl rfl (.inl rfl) objs_nil) (by decide)
    rfl
end Go.Proofs.YtoincpeodnmfmaaDoor.Abs
