import Derived.Test.YtpdkhlpmiblflaaGreatR1
import Derived.Test.YtpdkhlpmiblflaaGreatAbsE
set_option linter.unusedVariables false
set_option linter.unusedSimpArgs false
namespace Go.Proofs.YtpdkhlpmiblflaaGreat.Abs
open Go Go.RowKit

abbrev Src := List Int × Int × Int
def okSrc (s : Src) : Prop := (∀ x ∈ s.1, 0 ≤ x ∧ x ≤ 255) ∧ s.1.length ≤ 1048576 ∧ (0 ≤ s.2.1 ∧ s.2.1 ≤ 1000000000) ∧ 0 ≤ s.2.2 ∧ s.2.2 ≤ 18446744073709551615
def seedF (seed b : Int) : Int := IntKind.u64.wrap (IntKind.u64.wrap (IntKind.u64.wrap (seed * 6364136223846793005) + IntKind.u64.wrap b) + 1442695040888963407)
def nxB (s : Src) : Int := if decide (s.2.1 < s.1.length) = true then s.1.getD s.2.1.toNat 0 else 0
def nxS (s : Src) : Src := (s.1, s.2.1 + 1, seedF s.2.2 (nxB s))
def nxV (s : Src) : Int := if decide (s.2.1 + 1 ≤ s.1.length) = true then nxB s else IntKind.i64.wrap (IntKind.u64.wrap (BitVec.ofInt 64 ((nxS s).2.2.fdiv (2 ^ 40)) &&& BitVec.ofInt 64 255).toNat)
def pkS (s : Src) (n : Int) : Src := if decide (n ≤ 1) = true then s else if decide (n > 200) = true then nxS (nxS s) else nxS s
def pkV (s : Src) (n : Int) : Int := if decide (n ≤ 1) = true then 0 else if decide (n > 200) = true then (nxV s * 256 + nxV (nxS s)).tmod n else (nxV s).tmod n

noncomputable abbrev s_S_l00Src_next : Spec Src where
  args := fun _ => [.ptr 0 0 0]
  pre := okSrc
  obs := fun s => [⟨80, 3, false, [[.sl 1 (ints .u8 (s).1), .val (.int .i64 (s).2.1), .val (.int .u64 (s).2.2)]]⟩]
  out := fun s => [⟨80, 3, false, [[.sl 1 (ints .u8 (nxS s).1), .val (.int .i64 (nxS s).2.1), .val (.int .u64 (nxS s).2.2)]]⟩]
  res := fun s => .val (.int .i64 (nxV s))

set_option maxRecDepth 20000 in
set_option maxHeartbeats 1000000 in
theorem ok_S_l00Src_next : FnOk Pr 71 s_S_l00Src_next := by
 refine fn_okG 1 1 T0_ok Go.Proofs.Tryz.func71 rfl (enters_of Go.Proofs.Tryz.func71 rfl rfl) (fun _ => rfl) (fun _ => rfl) (fun _ => rfl) ?_
 rintro ⟨code, ps, seed⟩ ⟨hb, hl, hps, hsd⟩ C hP hN hm hG
 change awp C _ _ ⟨[(0, .ptr 0 0 0)], [(0, ⟨80, 3, false, [[.sl 1 (ints .u8 ((code, ps, seed)).1), .val (.int .i64 ((code, ps, seed)).2.1), .val (.int .u64 ((code, ps, seed)).2.2)]]⟩)], 1⟩
 simp only at hb hl hps hsd
 refine awp_seq ?_
 refine r1 T0_ok hP hm hN ?_
 refine g1 ?_
 refine awp_seq ?_
 refine r1 T0_ok hP hm hN ?_
 refine g1 ?_
 refine awp_seq ?_
 refine awp_seq ?_
 refine awp_draw T0_ok hP hm hN Pr_mix [0, 1, 2, 3, 4, 5, 6, 7, 8, 9, 10, 11] [] _ rfl (by rfl) ?_
 iterate 10 refine d1 T0_ok ?_
 refine dreg_nil ?_
 refine awp_cond rfl (fun hc0 => ?_) (fun hc0 => ?_)
 ·
  have hlt : ps < code.length := by simpa using hc0
  have hx := hb _ (getD_mem' (d := 0) (show ps.toNat < code.length by omega))
  have hB : nxB (code, ps, seed) = code.getD ps.toNat 0 := by simp [nxB, hlt]
  refine awp_draw T0_ok hP hm hN Pr_mix [0, 1, 2, 3, 4, 5, 6, 7, 8, 9, 10, 11] [] _ rfl (by rfl) ?_
  iterate 12 refine d1 T0_ok ?_
  refine dreg_nil ?_
  refine awp_seq ?_
  refine r1 T0_ok hP hm hN ?_
  iterate 8 refine g1 ?_
  refine awp_seq ?_
  refine r1 T0_ok hP hm hN ?_
  iterate 13 refine g1 ?_
  refine awp_seq ?_
  refine awp_seq ?_
  refine awp_draw T0_ok hP hm hN Pr_mix [0, 1, 2, 3, 4, 5, 6, 7, 8, 9, 10, 11] [] _ rfl (by rfl) ?_
  iterate 10 refine d1 T0_ok ?_
  refine dreg_nil ?_
  refine awp_cond rfl (fun h53 => ?_) (fun h53 => ?_)
  ·
   refine awp_seq ?_
   refine r1 T0_ok hP hm hN ?_
   iterate 2 refine g1 ?_
   refine awp_ret ?_
   refine finG_mk [] rfl rfl ?_ ?_ (by decide)
   · show D.val (.int .i64 (nxV (code, ps, seed))) = _
     simp only [nxV, nxS, hB, h53, if_true, if_false, Bool.false_eq_true]
     rfl
   · exact objsG_cons rfl rfl rfl (by show some [[_, _, D.val (.int .u64 (seedF seed (nxB (code, ps, seed))))]] = _; rw [hB]; rfl) (.inr (.inl rfl)) objsG_nil
  ·
   refine awp_skip ?_
   refine awp_seq ?_
   refine r1 T0_ok hP hm hN ?_
   iterate 8 refine g1 ?_
   refine awp_ret ?_
   refine finG_mk [] rfl rfl ?_ ?_ (by decide)
   · show D.val (.int .i64 (nxV (code, ps, seed))) = _
     simp only [nxV, nxS, hB, h53, if_true, if_false, Bool.false_eq_true]
     rfl
   · exact objsG_cons rfl rfl rfl (by show some [[_, _, D.val (.int .u64 (seedF seed (nxB (code, ps, seed))))]] = _; rw [hB]; rfl) (.inr (.inl rfl)) objsG_nil
 ·
  have hge : ¬ ps < code.length := by simpa using hc0
  have hB : nxB (code, ps, seed) = 0 := by simp [nxB, hge]
  refine awp_skip ?_
  refine awp_seq ?_
  refine r1 T0_ok hP hm hN ?_
  iterate 8 refine g1 ?_
  refine awp_seq ?_
  refine r1 T0_ok hP hm hN ?_
  iterate 13 refine g1 ?_
  refine awp_seq ?_
  refine awp_seq ?_
  refine awp_draw T0_ok hP hm hN Pr_mix [0, 1, 2, 3, 4, 5, 6, 7, 8, 9, 10, 11] [] _ rfl (by rfl) ?_
  iterate 10 refine d1 T0_ok ?_
  refine dreg_nil ?_
  refine awp_cond rfl (fun h53 => ?_) (fun h53 => ?_)
  ·
   refine awp_seq ?_
   refine r1 T0_ok hP hm hN ?_
   iterate 2 refine g1 ?_
   refine awp_ret ?_
   refine finG_mk [] rfl rfl ?_ ?_ (by decide)
   · show D.val (.int .i64 (nxV (code, ps, seed))) = _
     simp only [nxV, nxS, hB, h53, if_true, if_false, Bool.false_eq_true]
     rfl
   · exact objsG_cons rfl rfl rfl (by show some [[_, _, D.val (.int .u64 (seedF seed (nxB (code, ps, seed))))]] = _; rw [hB]; rfl) (.inr (.inl rfl)) objsG_nil
  ·
   refine awp_skip ?_
   refine awp_seq ?_
   refine r1 T0_ok hP hm hN ?_
   iterate 8 refine g1 ?_
   refine awp_ret ?_
   refine finG_mk [] rfl rfl ?_ ?_ (by decide)
   · show D.val (.int .i64 (nxV (code, ps, seed))) = _
     simp only [nxV, nxS, hB, h53, if_true, if_false, Bool.false_eq_true]
     rfl
   · exact objsG_cons rfl rfl rfl (by show some [[_, _, D.val (.int .u64 (seedF seed (nxB (code, ps, seed))))]] = _; rw [hB]; rfl) (.inr (.inl rfl)) objsG_nil
end Go.Proofs.YtpdkhlpmiblflaaGreat.Abs

