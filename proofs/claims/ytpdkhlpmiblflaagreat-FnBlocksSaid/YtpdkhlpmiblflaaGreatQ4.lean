import Derived.Test.YtpdkhlpmiblflaaGreatQ3
set_option linter.unusedVariables false
set_option linter.unusedSimpArgs false
namespace Go.Proofs.YtpdkhlpmiblflaaGreat.Abs
open Go Go.RowKit

def okSrcN (k : Int) (s : Src) : Prop := okSrc s ∧ s.2.1 ≤ 1000000000 - k
theorem nxS_ok {s : Src} {k : Int} (h : okSrcN (k + 1) s) (hk : 0 ≤ k) : okSrcN k (nxS s) := by
  obtain ⟨⟨h1, h2, h3, h4⟩, h5⟩ := h
  have hw : ∀ n : Int, 0 ≤ IntKind.u64.wrap n ∧ IntKind.u64.wrap n ≤ 18446744073709551615 := fun n => by
    unfold IntKind.wrap
    simp [IntKind.bits, IntKind.signed]
    omega
  exact ⟨⟨h1, h2, by simp only [nxS]; omega, hw _⟩, by simp only [nxS]; omega⟩

noncomputable abbrev s_S_l00Src_pick : Spec (Src × Int) where
  args := fun x => [.ptr 0 0 0, .val (.int .i64 x.2)]
  pre := fun x => okSrcN 2 x.1 ∧ -9223372036854775808 ≤ x.2 ∧ x.2 ≤ 9223372036854775807
  obs := fun x => [⟨80, 3, false, [[.sl 1 (ints .u8 (x.1).1), .val (.int .i64 (x.1).2.1), .val (.int .u64 (x.1).2.2)]]⟩]
  out := fun x => [⟨80, 3, false, [[.sl 1 (ints .u8 (pkS x.1 x.2).1), .val (.int .i64 (pkS x.1 x.2).2.1), .val (.int .u64 (pkS x.1 x.2).2.2)]]⟩]
  res := fun x => .val (.int .i64 (pkV x.1 x.2))

set_option maxRecDepth 20000 in
set_option maxHeartbeats 1000000 in
theorem ok_S_l00Src_pick : FnOk Pr 42 s_S_l00Src_pick := by
 refine fn_okG 2 1 T0_ok Go.Proofs.Tryz.func42 rfl (enters_of Go.Proofs.Tryz.func42 rfl rfl) (fun _ => rfl) (fun _ => rfl) (fun _ => rfl) ?_
 rintro ⟨s, n⟩ ⟨hs, hn1, hn2⟩ C hP hN hm hG
 change awp C _ _ ⟨[(0, .ptr 0 0 0), (1, .val (.int .i64 n))], [(0, ⟨80, 3, false, [[.sl 1 (ints .u8 (s).1), .val (.int .i64 (s).2.1), .val (.int .u64 (s).2.2)]]⟩)], 1⟩
 simp only at hs hn1 hn2
 have hs1 := nxS_ok (k := 1) hs (by omega)
 have hv1 := nxV_b hs.1
 have hv2 := nxV_b hs1.1
 refine awp_seq ?_
 refine r1 T0_ok hP hm hN ?_
 refine g1 ?_
 refine awp_seq ?_
 refine awp_seq ?_
 refine r1 T0_ok hP hm hN ?_
 iterate 2 refine g1 ?_
 refine awp_cond rfl (fun hc0 => ?_) (fun hc0 => ?_)
 ·
  refine awp_seq ?_
  refine r1 T0_ok hP hm hN ?_
  refine g1 ?_
  refine awp_ret ?_
  refine finG_mk [] rfl rfl ?_ ?_ (by decide)
  · show D.val (.int .i64 (pkV s n)) = _
    rw [show pkV s n = 0 by simp [pkV, *]]
    rfl
  · show ObjsG _ _ _ [⟨80, 3, false, [[.sl 1 (ints .u8 (pkS s n).1), .val (.int .i64 (pkS s n).2.1), .val (.int .u64 (pkS s n).2.2)]]⟩]
    rw [show pkS s n = s by simp [pkS, *]]
    exact objsG_cons rfl rfl rfl rfl (.inr (.inl rfl)) objsG_nil
 ·
  have hn3 : ¬ n ≤ 1 := by simpa using hc0
  refine awp_skip ?_
  refine awp_seq ?_
  refine r1 T0_ok hP hm hN ?_
  refine g1 ?_
  refine gc1 ?_ (call_next s hs.1 rfl rfl rfl rfl)
  refine g1 ?_
  refine awp_seq ?_
  refine awp_seq ?_
  refine r1 T0_ok hP hm hN ?_
  iterate 2 refine g1 ?_
  refine awp_cond rfl (fun hc1 => ?_) (fun hc1 => ?_)
  ·
   refine r1 T0_ok hP hm hN ?_
   iterate 3 refine g1 ?_
   refine gc1 ?_ (call_next (nxS s) hs1.1 rfl rfl rfl rfl)
   iterate 2 refine g1 ?_
   refine awp_seq ?_
   refine r1 T0_ok hP hm hN ?_
   iterate 4 refine g1 ?_
   refine awp_ret ?_
   refine finG_mk [] rfl rfl ?_ ?_ (by decide)
   · show D.val (.int .i64 (pkV s n)) = _
     rw [show pkV s n = (nxV s * 256 + nxV (nxS s)).tmod n by simp [pkV, *]]
     rfl
   · show ObjsG _ _ _ [⟨80, 3, false, [[.sl 1 (ints .u8 (pkS s n).1), .val (.int .i64 (pkS s n).2.1), .val (.int .u64 (pkS s n).2.2)]]⟩]
     rw [show pkS s n = nxS (nxS s) by simp [pkS, *]]
     exact objsG_cons rfl rfl rfl rfl (.inr (.inl rfl)) objsG_nil
  ·
   refine awp_skip ?_
   refine awp_seq ?_
   refine r1 T0_ok hP hm hN ?_
   iterate 4 refine g1 ?_
   refine awp_ret ?_
   refine finG_mk [] rfl rfl ?_ ?_ (by decide)
   · show D.val (.int .i64 (pkV s n)) = _
     rw [show pkV s n = (nxV s).tmod n by simp [pkV, *]]
     rfl
   · show ObjsG _ _ _ [⟨80, 3, false, [[.sl 1 (ints .u8 (pkS s n).1), .val (.int .i64 (pkS s n).2.1), .val (.int .u64 (pkS s n).2.2)]]⟩]
     rw [show pkS s n = nxS s by simp [pkS, *]]
     exact objsG_cons rfl rfl rfl rfl (.inr (.inl rfl)) objsG_nil
end Go.Proofs.YtpdkhlpmiblflaaGreat.Abs

